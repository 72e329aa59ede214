/-
  A reader of code. Part 5: regions, in the text's order and in any order.
-/
import Derived.Orders
import Derived.Tactics
import Derived.RowKit3
import Derived.OrdersHeld
import Derived.Scope
import Derived.Defers
import Derived.Laws.Append
import Derived.Test.YtcemhghkipgdiaaGreatDoorRows
import Derived.WalkKit
import Derived.ProofKit
import Derived.OpenShut
import Derived.SizedLaws
import Derived.Carry
import Derived.Deep.Slices
import Derived.Test.YtcemhghkipgdiaaGreatDoorProg
import Derived.KernelRfl
open Option renaming some->ZO,none->ZR
open Go.Obj renaming cells->ZP
open Bool renaming false->ZQ,true->ZT
open Go.Addr renaming add->ZW,mk->ZX
namespace Go.Proofs.YtcemhghkipgdiaaGreatDoor
open Go
theorem Z8 {a b:Nat} (h:Nat.ble (a+1) b=true):a<b:=Nat.le_of_ble_eq_true h
theorem Υ:type_of%@if_neg:=@if_neg
theorem Χ:type_of%@if_pos:=@if_pos
theorem δ:type_of%@decide_eq_true_eq:=@decide_eq_true_eq
theorem ε:type_of%@of_decide_eq_true:=@of_decide_eq_true
theorem ζ:type_of%@decide_eq_true:=@decide_eq_true
theorem η:type_of%@of_decide_eq_false:=@of_decide_eq_false
theorem ι:type_of%@decide_eq_false:=@decide_eq_false
theorem μ:type_of%@not_not_intro:=@not_not_intro
theorem N5:type_of%@Int.toNat_natCast:=@Int.toNat_natCast
theorem N6:type_of%@List.getElem?_eq_getElem:=@List.getElem?_eq_getElem
theorem XN:type_of%@List.getElem?_eq_some_iff:=@List.getElem?_eq_some_iff
theorem XO:type_of%@List.mem_singleton:=@List.mem_singleton
theorem XP:type_of%@List.mem_cons:=@List.mem_cons
theorem XQ:type_of%@List.mem_of_getElem?:=@List.mem_of_getElem?
theorem XR:type_of%@List.mem_append:=@List.mem_append
theorem XS:type_of%@Nat.le_refl:=@Nat.le_refl
theorem XT:type_of%@List.length_append:=@List.length_append
theorem XU:type_of%@Array.length_toList:=@Array.length_toList
theorem XV:type_of%@Bool.eq_iff_iff:=@Bool.eq_iff_iff
theorem XW:type_of%@List.length_map:=@List.length_map
theorem XX:type_of%@List.length_take:=@List.length_take
theorem XY:type_of%@List.take_of_length_le:=@List.take_of_length_le
theorem XZ:type_of%@List.take_length:=@List.take_length
theorem X0:type_of%@List.getElem?_append_left:=@List.getElem?_append_left
theorem X1:type_of%@List.mem_map:=@List.mem_map
theorem X2:type_of%@List.getElem?_map:=@List.getElem?_map
theorem X3:type_of%@List.length_singleton:=@List.length_singleton
theorem X4:type_of%@List.length_cons:=@List.length_cons
theorem X5:type_of%@Nat.zero_add:=@Nat.zero_add
theorem X6:type_of%@List.getElem?_append_right:=@List.getElem?_append_right
theorem X7:type_of%@Bool.and_eq_true_iff:=@Bool.and_eq_true_iff
theorem X8:type_of%@List.mem_cons_of_mem:=@List.mem_cons_of_mem
theorem X9:type_of%@List.eq_nil_of_length_eq_zero:=@List.eq_nil_of_length_eq_zero
theorem Ya:type_of%@List.take_succ_eq_append_getElem:=@List.take_succ_eq_append_getElem
theorem Yb:type_of%@List.take_append_of_le_length:=@List.take_append_of_le_length
theorem Yc:type_of%@Array.getElem?_eq_getElem:=@Array.getElem?_eq_getElem
theorem Yd:type_of%@List.map_append:=@List.map_append
theorem Ye:type_of%@List.nodup_append:=@List.nodup_append
theorem Yf:type_of%@List.map_cons:=@List.map_cons
theorem Yg:type_of%@List.getD_eq_getElem?_getD:=@List.getD_eq_getElem?_getD
theorem Yh:type_of%@Option.some.inj:=@Option.some.inj
theorem Yi:type_of%@List.getElem?_eq_none:=@List.getElem?_eq_none
theorem Yj:type_of%@Nat.mul_one:=@Nat.mul_one
theorem Yk:type_of%@List.append_assoc:=@List.append_assoc
theorem Yl:type_of%@List.getElem?_cons_succ:=@List.getElem?_cons_succ
theorem Ym:type_of%@List.all_eq_true:=@List.all_eq_true
theorem Yn:type_of%@Bool.false_eq_true:=@Bool.false_eq_true
theorem Yo:type_of%@List.getElem?_range:=@List.getElem?_range
theorem Yp:type_of%@List.getElem?_take_of_lt:=@List.getElem?_take_of_lt
theorem Yq:type_of%@List.length_range:=@List.length_range
theorem Yr:type_of%@List.getElem?_set_self:=@List.getElem?_set_self
theorem Ys:type_of%@List.append_nil:=@List.append_nil
theorem Yt:type_of%@Bool.and_eq_true:=@Bool.and_eq_true
theorem Yu:type_of%@List.nil_append:=@List.nil_append
theorem Yv:type_of%@List.mem_range:=@List.mem_range
theorem Yw:type_of%@List.drop_zero:=@List.drop_zero
theorem Yx:type_of%@List.ext_getElem?:=@List.ext_getElem?
theorem Yy:type_of%@List.take_add_one:=@List.take_add_one
theorem Yz:type_of%@Nat.pow_le_pow_right:=@Nat.pow_le_pow_right
theorem YA:type_of%@List.cons_append:=@List.cons_append
theorem YB:type_of%@List.drop_length:=@List.drop_length
theorem YC:type_of%@List.flatMap_cons:=@List.flatMap_cons
theorem YD:type_of%@Option.map_some:=@Option.map_some
theorem YE:type_of%@Bool.or_eq_true:=@Bool.or_eq_true
theorem YF:type_of%@Bool.or_eq_true_iff:=@Bool.or_eq_true_iff
theorem YG:type_of%@List.length_eq_zero_iff:=@List.length_eq_zero_iff
theorem YH:type_of%@Int.eq_ofNat_of_zero_le:=@Int.eq_ofNat_of_zero_le
theorem YI:type_of%@Int.tmod_eq_emod_of_nonneg:=@Int.tmod_eq_emod_of_nonneg
theorem YJ:type_of%@List.take_zero:=@List.take_zero
theorem YK:type_of%@Bool.eq_false_iff:=@Bool.eq_false_iff
theorem YL:type_of%@List.nodup_cons:=@List.nodup_cons
theorem YM:type_of%@List.getElem_mem:=@List.getElem_mem
theorem YN:type_of%@Nat.testBit_two_pow_mul_add:=@Nat.testBit_two_pow_mul_add
theorem YO:type_of%@List.any_eq_true:=@List.any_eq_true
theorem YP:type_of%@List.not_mem_nil:=@List.not_mem_nil
theorem YQ:type_of%@Nat.le_trans:=@Nat.le_trans
theorem YR:type_of%@List.map_congr_left:=@List.map_congr_left
theorem YS:type_of%@List.flatMap_append:=@List.flatMap_append
theorem YT:type_of%@Nat.mod_lt:=@Nat.mod_lt
theorem YU:type_of%@List.mem_cons_self:=@List.mem_cons_self
theorem YV:type_of%@Nat.mul_le_mul_right:=@Nat.mul_le_mul_right
theorem YW:type_of%@List.getElem?_set_ne:=@List.getElem?_set_ne
theorem YX:type_of%@Array.getD_eq_getD_getElem?:=@Array.getD_eq_getD_getElem?
theorem YY:type_of%@Bool.true_and:=@Bool.true_and
theorem YZ:type_of%@Bool.not_eq_true':=@Bool.not_eq_true'
theorem Y0:type_of%@Nat.zero_mul:=@Nat.zero_mul
theorem Y1:type_of%@Int.tdiv_eq_ediv_of_nonneg:=@Int.tdiv_eq_ediv_of_nonneg
theorem Y2:type_of%@List.length_pos_iff:=@List.length_pos_iff
theorem Y3:type_of%@List.map_eq_singleton_iff:=@List.map_eq_singleton_iff
theorem Y4:type_of%@Nat.eq_of_beq_eq_true:=@Nat.eq_of_beq_eq_true
theorem Y5:type_of%@Array.getElem?_toList:=@Array.getElem?_toList
theorem Y6:type_of%@List.length_drop:=@List.length_drop
theorem Y7:type_of%@Nat.eq_zero_or_pos:=@Nat.eq_zero_or_pos
theorem Y8:type_of%@Bool.false_ne_true:=@Bool.false_ne_true
theorem Y9:type_of%@Nat.sub_zero:=@Nat.sub_zero
theorem Za:type_of%@Nat.succ_mul:=@Nat.succ_mul
theorem Zb:type_of%@List.mem_append_left:=@List.mem_append_left
theorem Zc:type_of%@List.getElem?_modify:=@List.getElem?_modify
theorem Zd:type_of%@List.mem_of_mem_take:=@List.mem_of_mem_take
theorem Ze:type_of%@List.getElem?_set:=@List.getElem?_set
theorem Zf:type_of%@Nat.add_sub_cancel_left:=@Nat.add_sub_cancel_left
theorem Zg:type_of%@List.mem_filter:=@List.mem_filter
theorem Zh:type_of%@List.length_set:=@List.length_set
theorem Zi:type_of%@Nat.add_zero:=@Nat.add_zero
theorem Zj:type_of%@Nat.zero_le:=@Nat.zero_le
theorem Zk:type_of%@Nat.one_mul:=@Nat.one_mul
theorem Zl:type_of%@Bool.not_eq_true:=@Bool.not_eq_true
theorem Zm:type_of%@List.mem_flatMap:=@List.mem_flatMap
theorem Zn:type_of%@List.getElem?_drop:=@List.getElem?_drop
theorem Zo:type_of%@Nat.pos_of_ne_zero:=@Nat.pos_of_ne_zero
theorem Zp:type_of%@Nat.le_of_ble_eq_true:=@Nat.le_of_ble_eq_true
theorem Zq:type_of%@List.take_append_drop:=@List.take_append_drop
theorem Zr:type_of%@List.range_succ:=@List.range_succ
theorem Zs:type_of%@List.forIn_cons:=@List.forIn_cons
theorem Zt:type_of%@List.size_toArray:=@List.size_toArray
theorem Zu:type_of%@Nat.add_mul:=@Nat.add_mul
theorem Zv:type_of%@Int.le_refl:=@Int.le_refl
theorem Zw:type_of%@Decidable.not_not:=@Decidable.not_not
theorem Zx:type_of%@List.all_cons:=@List.all_cons
theorem Zy:type_of%@Bool.false_or:=@Bool.false_or
theorem Zz:type_of%@Nat.testBit_two_pow:=@Nat.testBit_two_pow
theorem ZA:type_of%@List.drop_succ_cons:=@List.drop_succ_cons
theorem ZB:type_of%@Nat.add_one_sub_one:=@Nat.add_one_sub_one
theorem ZC:type_of%@List.mem_map_of_mem:=@List.mem_map_of_mem
theorem ZD:type_of%@List.prefix_refl:=@List.prefix_refl
theorem ZE:type_of%@Bool.or_false:=@Bool.or_false
theorem ZF:type_of%@Prod.mk.injEq:=@Prod.mk.injEq
abbrev PH:=Nat->Option Obj
namespace PH
def set (F:PH) (b:Nat) (o:Obj):PH:=λx=>if x=b then ZO o else F x
def cell (F:PH) (a:Addr):Option Value:=
 match F a.block with
 |some (ZP c _ _)=>if a.spot.isSome then ZR else c[a.off]?
 |_=>ZR
def le (F G:PH):Prop:=∀b o,F b=ZO o->G b=ZO o
end PH
structure Ev where
 os:Os
 tape:Nat->Question->Nat
 output:Array (Nat×ByteArray)
 fr:PH
structure Sat (e:Ev) (w:World) (F:PH):Prop where
 os:w.os=e.os
 tape:w.tape=e.tape
 output:w.output=e.output
 heap:∀b o,F b=ZO o->w.heap[b]? =ZO o
 frame:∀b o,e.fr b=ZO o->F b=ZR/\w.heap[b]? =ZO o
def am (v:Value):Prop:=(∀xs,v≠.agg xs)/\(∀xs,v≠.tuple xs)
def frz (fr:Nat×Nat) (i:Nat):Bool:=fr.1<=i && i<fr.2
def ki:Obj->Option (TypeId×Nat)
 | ZP c e _=>ZO (e,c.size)
 |_=>ZR
def uT (o:Obj) (i:Nat):Bool:=
 match o with
 | ZP _ _ fr=>frz fr i
 |_=>ZQ
def aH {α:Type} (P:Program):Sem α->PH->(α->PH->Prop)->Prop
 | .pure a,F,Q=>Q a F
 | .load _ a k,F,Q=>∃v,F.cell a=ZO v/\aH P (k v) F Q
 | .store _ a v k,F,Q=>am v/\∃c e fr,F a.block=ZO (ZP c e fr)/\a.spot=ZR/\a.off<c.size/\frz fr a.off=ZQ/\
   aH P k (F.set a.block (ZP (c.setIfInBounds a.off v) e fr)) Q
 | .new o k,F,Q=>∀b,F b=ZR->aH P (k b) (F.set b o) Q
 | .shape r k,F,Q=>∃o,F r=ZO o/\aH P (k (ki o)) F Q
 | .freeze a n k,F,Q=>if n=0 then aH P k F Q else ∃c e fr,F a.block=ZO (ZP c e fr)/\
   aH P k (F.set a.block (ZP c e (if fr.1==fr.2 then (a.off,a.off+n) else (min fr.1 a.off,max fr.2 (a.off+n))))) Q
 | .frozen a k,F,Q=>∃o,F a.block=ZO o/\aH P (k (uT o a.off)) F Q
 | .getObj r k,F,Q=>∃o,F r=ZO o/\(∀c e fr,o≠ZP c e fr)/\aH P (k o) F Q
 | .setObj r o k,F,Q=>∃o',F r=ZO o'/\(∀c e fr,o'≠ZP c e fr)/\aH P k (F.set r o) Q
 | .choose q k,F,Q=>if q.forced then aH P (k 0) F Q else ∀t,aH P (k (q.cut t)) F Q
 | .sys _ _,_,_=>False
 | .program k,F,Q=>aH P (k P) F Q
 | .mark _ k,F,Q=>aH P k F Q
 | .halt _,_,_=>False
section
variable {e:Ev} {w:World} {F:PH}
theorem Sat.cell (h:Sat e w F) {a:Addr} {v:Value} (hc:F.cell a=ZO v):w.cell? a=ZO v:=by
 unfold PH.cell at hc;unfold World.cell?;split at hc
 ·rename_i c t fr hb;rw [h.heap _ _ hb];exact hc
 ·cases hc
theorem Sat.lt (h:Sat e w F) {b:Nat} {o:Obj} (hb:F b=ZO o):b<w.heap.size:=by have:=h.heap _ _ hb;exact (Array.getElem?_eq_some_iff.1 this).1
theorem Sat.fresh (h:Sat e w F):F w.heap.size=ZR:=by
 cases hb:F w.heap.size with
 |none=>rfl
 |some o=>exact absurd (h.lt hb) (by omega)
theorem Sat.push (h:Sat e w F) (o:Obj):Sat e {w with heap:=w.heap.push o} (F.set w.heap.size o):=by
 refine ⟨h.os,h.tape,h.output,λb o' hb=> ?_,λb o' hb=> ?_⟩
 ·unfold PH.set at hb;split at hb
  ·rename_i hbs;subst hbs;simpa using hb
  ·rename_i hbs;have h1:=h.heap _ _ hb;have h2:=h.lt hb;show (w.heap.push o)[b]? =ZO o';rw [Array.getElem?_push,Υ (by omega)];exact h1
 ·obtain ⟨h1,h2⟩:=h.frame b o' hb;have hlt:=(Array.getElem?_eq_some_iff.1 h2).1;refine ⟨?_,?_⟩
  ·unfold PH.set;rw [Υ (by omega)];exact h1
  ·show (w.heap.push o)[b]? =ZO o';rw [Array.getElem?_push,Υ (by omega)];exact h2
theorem Sat.modify (h:Sat e w F) {r:Nat} {o o0:Obj} (hr:F r=ZO o0) (heap':Array Obj) (h1:heap'[r]? =ZO o) (h2:∀b,b≠r->heap'[b]? =w.heap[b]?):
  Sat e {w with heap:=heap'} (F.set r o):=by
 refine ⟨h.os,h.tape,h.output,λb o' hb=> ?_,λb o' hb=> ?_⟩
 ·unfold PH.set at hb;split at hb
  ·rename_i hbs;subst hbs;exact h1.trans hb
  ·rename_i hbs;exact (h2 b hbs).trans (h.heap _ _ hb)
 ·obtain ⟨h3,h4⟩:=h.frame b o' hb;have hb':b≠r:=λe=>by rw [e,hr] at h3;cases h3
  exact ⟨by unfold PH.set;rw [Υ hb'];exact h3,(h2 b hb').trans h4⟩
theorem Sat.drawn (h:Sat e w F) (n:Nat):Sat e {w with drawn:=n} F:=⟨h.os,h.tape,h.output,h.heap,h.frame⟩
theorem AO {α:Type} {P:Program} {e:Ev} (s:Sem α):∀(F:PH) (w:World) (Q:α->PH->Prop),aH P s F Q->Sat e w F->
  ∃a w' F',s.run P w=.ok a w'/\Sat e w' F'/\Q a F':=by
 induction s with
 |pure a=>intro F w Q h hs;exact ⟨a,w,F,rfl,hs,h⟩
 |load m a k ih=>intro F w Q h hs;obtain ⟨v,hc,h⟩:=h;simp only [Sem.run,hs.cell hc];exact ih v F w Q h hs
 |store m a v k ih=>
  intro F w Q h hs;obtain ⟨⟨h1,h2⟩,c,t,fr,hb,hsp,hlt,hfr,h⟩:=h;have hheap:=hs.heap _ _ hb;have hcell:w.cell? a=ZO c[a.off]:=by simp [World.cell?,hheap,hsp,hlt]
  have hfz:w.frozen? a=ZQ:=by obtain ⟨lo,hi⟩:=fr;simpa [World.frozen?,hheap,frz] using hfr
  have hrun:(Sem.store m a v k).run P w=k.run P (w.setCell a v):=by cases v<;>first|exact absurd rfl (h1 _)|exact absurd rfl (h2 _)|simp [Sem.run,hcell,hfz]
  rw [hrun];refine ih _ _ Q h ?_;have:w.setCell a v={w with heap:=(w.setCell a v).heap}:=rfl;rw [this];refine hs.modify hb _ ?_ (λb hb'=> ?_)
  ·simp [World.setCell,Array.getElem?_modify,hheap,hsp]
  ·simp only [World.setCell,Array.getElem?_modify];rw [Υ (λh=>hb' h.symm)]
 |new o k ih=>intro F w Q h hs;exact ih _ _ _ Q (h _ hs.fresh) (hs.push o)
 |shape r k ih=>
  intro F w Q h hs;obtain ⟨o,hb,h⟩:=h;have hheap:=hs.heap _ _ hb;have:w.shape? r=(ki o):=by unfold World.shape?;rw [hheap];cases o<;>simp [ki]
  simp only [Sem.run,this];exact ih _ F w Q h hs
 |freeze a n k ih=>
  intro F w Q h hs;simp only [Sem.run,World.freeze];unfold aH at h;split at h
  ·rename_i hn;rw [Χ hn];exact ih F w Q h hs
  ·rename_i hn;rw [Υ hn];obtain ⟨c,t,fr,hb,h⟩:=h;have hheap:=hs.heap _ _ hb;refine ih _ _ Q h (hs.modify hb _ ?_ (λb hb'=> ?_))
   ·simp [Array.getElem?_modify,hheap]
   ·rw [Array.getElem?_modify,Υ (λh=>hb' h.symm)]
 |frozen a k ih=>
  intro F w Q h hs;obtain ⟨o,hb,h⟩:=h;have hheap:=hs.heap _ _ hb;have:w.frozen? a=(uT o a.off):=by unfold World.frozen?;rw [hheap];cases o<;>simp [uT,frz]
  simp only [Sem.run,this];exact ih _ F w Q h hs
 |getObj r k ih=>
  intro F w Q h hs;obtain ⟨o,hb,hn,h⟩:=h;have hheap:=hs.heap _ _ hb;have:(Sem.getObj r k).run P w=(k o).run P w:=by cases o<;>first|exact absurd rfl (hn _ _ _)|simp only [Sem.run,hheap]
  rw [this];exact ih _ F w Q h hs
 |setObj r o k ih=>
  intro F w Q h hs;obtain ⟨o',hb,hn,h⟩:=h;have hheap:=hs.heap _ _ hb;have hlt:=hs.lt hb;have:(Sem.setObj r o k).run P w=k.run P {w with heap:=w.heap.setIfInBounds r o}:=by cases o'<;>first|exact absurd rfl (hn _ _ _)|simp only [Sem.run,hheap]
  rw [this];refine ih _ _ Q h (hs.modify hb _ ?_ (λb hb'=> ?_))
  ·simp [hlt]
  ·rw [Array.getElem?_setIfInBounds_ne (λh=>hb' h.symm)]
 |choose q k ih=>
  intro F w Q h hs;simp only [Sem.run];unfold aH at h;split
  ·rename_i hf;rw [Χ hf] at h;exact ih _ F w Q h hs
  ·rename_i hf;rw [Υ hf] at h;exact ih _ F _ Q (h _) (hs.drawn _)
 |sys c k ih=>intro F w Q h;exact h.elim
 |program k ih=>intro F w Q h hs;exact ih _ F w Q h hs
 |mark m k ih=>intro F w Q h hs;exact ih F w Q h hs
 |halt h=>intro F w Q h;exact h.elim
end
theorem uU {α β:Type} {P:Program} (s:Sem α) (f:α->Sem β):∀(F:PH) (Q:β->PH->Prop),
  aH P (s.bind f) F Q↔aH P s F (λa F'=>aH P (f a) F' Q):=by
 induction s with
 |pure a=>intro F Q;rfl
 |load m a k ih=>intro F Q;simp only [Sem.bind,aH,ih]
 |store m a v k ih=>intro F Q;simp only [Sem.bind,aH,ih]
 |new o k ih=>intro F Q;simp only [Sem.bind,aH,ih]
 |shape r k ih=>intro F Q;simp only [Sem.bind,aH,ih]
 |freeze a n k ih=>intro F Q;simp only [Sem.bind,aH,ih]
 |frozen a k ih=>intro F Q;simp only [Sem.bind,aH,ih]
 |getObj r k ih=>intro F Q;simp only [Sem.bind,aH,ih]
 |setObj r o k ih=>intro F Q;simp only [Sem.bind,aH,ih]
 |choose q k ih=>intro F Q;simp only [Sem.bind,aH,ih]
 |sys c k ih=>intro F Q;simp only [Sem.bind,aH]
 |program k ih=>intro F Q;simp only [Sem.bind,aH,ih]
 |mark m k ih=>intro F Q;simp only [Sem.bind,aH,ih]
 |halt h=>intro F Q;simp only [Sem.bind,aH]
theorem aD {α β:Type} {P:Program} (s:Sem α) (f:α->Sem β) (F:PH) (Q:β->PH->Prop):
  aH P (s>>=f) F Q↔aH P s F (λa F'=>aH P (f a) F' Q):=uU s f F Q
theorem dr {α:Type} {P:Program} (s:Sem α):∀(F:PH) {Q Q':α->PH->Prop},aH P s F Q->(∀a F,Q a F->Q' a F)->aH P s F Q':=by
 induction s with
 |pure a=>intro F Q Q' h hq;exact hq _ _ h
 |load m a k ih=>rintro F Q Q' ⟨v,h1,h⟩ hq;exact ⟨v,h1,ih v F h hq⟩
 |store m a v k ih=>rintro F Q Q' ⟨h1,c,e,fr,h2,h3,h4,h5,h⟩ hq;exact ⟨h1,c,e,fr,h2,h3,h4,h5,ih _ h hq⟩
 |new o k ih=>intro F Q Q' h hq b hb;exact ih _ _ (h b hb) hq
 |shape r k ih=>rintro F Q Q' ⟨o,h1,h⟩ hq;exact ⟨o,h1,ih _ F h hq⟩
 |freeze a n k ih=>
  intro F Q Q' h hq;unfold aH at h ⊢;split at h
  ·rename_i hn;rw [Χ hn];exact ih F h hq
  ·rename_i hn;rw [Υ hn];obtain ⟨c,e,fr,h1,h⟩:=h;exact ⟨c,e,fr,h1,ih _ h hq⟩
 |frozen a k ih=>rintro F Q Q' ⟨o,h1,h⟩ hq;exact ⟨o,h1,ih _ F h hq⟩
 |getObj r k ih=>rintro F Q Q' ⟨o,h1,h2,h⟩ hq;exact ⟨o,h1,h2,ih _ F h hq⟩
 |setObj r o k ih=>rintro F Q Q' ⟨o',h1,h2,h⟩ hq;exact ⟨o',h1,h2,ih _ h hq⟩
 |choose q k ih=>
  intro F Q Q' h hq;unfold aH at h ⊢;split at h
  ·rename_i hn;rw [Χ hn];exact ih _ F h hq
  ·rename_i hn;rw [Υ hn];exact λt=>ih _ F (h t) hq
 |sys c k ih=>intro F Q Q' h;exact h.elim
 |program k ih=>intro F Q Q' h hq;exact ih _ F h hq
 |mark m k ih=>intro F Q Q' h hq;exact ih F h hq
 |halt h=>intro F Q Q' h;exact h.elim
abbrev En:=Nat->Value
def upd (E:En) (d:Nat) (v:Value):En:=λt=>bif Nat.beq t d then v else E t
def cZ (E:En):Option Tmp->Value->En
 |some d,v=>upd E d v
 |none,_=>E
def ev (E:En):Operand->Value
 | .tmp t=>E t
 | .const v=>v
 | .global g=> .pointer (ZO ⟨g,0,ZR⟩)
 | .func f=> .func (.func f) #[] #[]
def PE (args:List Value):En:=λt=>args.getD t undef
def AQ (P:Program) (d:Deferred):Prop:=∃fv cap f args,d.target=.fn fv cap/\∀w,(invoke d.target d.args).run P w=.ok (.enter f args) w/\
 CallsD P f args .returning w λe u' w'=>(∃v,e=.returned v)/\u'=.returning/\w'=w
theorem jG {P:Program} {fn:Func} {tmps:Array Value} {w:World} {v:Value} {R:Ending->World->Prop} (hr:(results fn tmps).run P w=.ok v w) (hR:R (.returned v) w):
  ∀ds:List Deferred,(∀d∈ds,AQ P d)->Leaves P fn tmps R ds .returning w
 |[],_=>⟨v,hr,hR⟩
 |d::ds,h=>by obtain ⟨fv,cap,f,args,h1,h2⟩:=h d (by simp);refine ⟨by simp,fv,cap,f,args,h1,(h2 w).1,(h2 w).2.mono ?_⟩;rintro e u' w' ⟨⟨v',rfl⟩,rfl,rfl⟩;exact jG hr hR ds λd hd=>h d (X8 _ hd)
structure Ag (P:Program) (n:Nat) (a:Act) (E:En):Prop where
 size:a.tmps.size=n
 defers:∀d∈a.defers,AQ P d
 val:∀t,a.tmps.getD t undef=E t
theorem Ag.eval {P:Program} {n:Nat} {a:Act} {E:En} (h:Ag P n a E):a.eval=ev E:=by
 funext x;cases x with
 |tmp t=>exact h.val t
 |_=>rfl
def fO (n:Nat):Option Tmp->Bool
 |some d=>Nat.blt d n
 |none=>ZT
theorem kX {i j:Nat} (h:¬i=j):Nat.beq i j=ZQ:=by
 cases hb:Nat.beq i j with
 |false=>rfl
 |true=>exact absurd (Y4 hb) h
theorem Ag.put {P:Program} {n:Nat} {a:Act} {E:En} (h:Ag P n a E) {d:Option Tmp} (v:Value) (hd:fO n d=ZT):Ag P n (a.put d v) (cZ E d v):=by
 cases d with
 |none=>exact h
 |some d=>
  have hlt:d<n:=by simpa [fO,Nat.blt_eq] using hd
  refine ⟨by simp [Act.put,h.size],h.defers,λt=> ?_⟩;simp only [Act.put,cZ,upd];have hv:=h.val t;by_cases ht:t=d
  ·subst ht;simp [h.size,hlt]
  ·have:Nat.beq t d=ZQ:=kX ht;simp only [this,cond_false];rw [<- hv];simp [Array.getElem?_setIfInBounds_ne (Ne.symm ht)]
def QL (P:Program) (e:Ev) (n:Nat) (Q:Exit->En->PH->Prop):Exit->Act->World->Prop:=λx a w=>∃E F,Ag P n a E/\Sat e w F/\Q x E F
def aj (P:Program) (f:FuncId) (args:Array Value) (F:PH) (R:Value->PH->Prop):Prop:=
 ∀e w,Sat e w F->Calls P f args w λen w'=>∃v F',en=.returned v/\Sat e w' F'/\R v F'
def PH.and (F H:PH):PH:=λb=>match F b with|some o=>ZO o|none=>H b
theorem PH.and_left {F H:PH} {b:Nat} {o:Obj} (h:F b=ZO o):(F.and H) b=ZO o:=by simp [PH.and,h]
theorem PH.and_right {F H:PH} {b:Nat} (h:F b=ZR):(F.and H) b=H b:=by simp [PH.and,h]
theorem aj.beside {P:Program} {f:FuncId} {args:Array Value} {F H:PH} {R:Value->PH->Prop} (h:aj P f args F R) (hd:∀b o,H b=ZO o->F b=ZR):
  aj P f args (F.and H) λv F'=>∃G,R v G/\F'=G.and H/\∀b o,H b=ZO o->G b=ZR:=by
 intro e w hs;have hand:∀{F:PH} {b:Nat},(F.and H) b=ZR->F b=ZR/\H b=ZR:=λ{F b} hb=>by
  unfold PH.and at hb;split at hb
  ·cases hb
  ·rename_i hf;exact ⟨hf,hb⟩
 refine (h ⟨e.os,e.tape,e.output,e.fr.and H⟩ w ⟨hs.os,hs.tape,hs.output,λb o hb=>hs.heap b o (PH.and_left hb),λb o hb=> ?_⟩).mono ?_
 ·simp only [PH.and] at hb;split at hb
  ·rename_i o' ho';cases hb;obtain ⟨h1,h2⟩:=hs.frame b _ ho';exact ⟨(hand h1).1,h2⟩
  ·have hn:=hd b o hb;exact ⟨hn,hs.heap b o ((PH.and_right hn).trans hb)⟩
 ·rintro en w' ⟨v,G,rfl,hg,hr⟩;have hdis:∀b o,H b=ZO o->G b=ZR:=λb o hb=>by
   have hx:∃o',(e.fr.and H) b=ZO o':=by
    cases hf:e.fr b with
    |none=>exact ⟨o,(PH.and_right hf).trans hb⟩
    |some o'=>exact ⟨o',PH.and_left hf⟩
   obtain ⟨o',ho'⟩:=hx;exact (hg.frame b o' ho').1
  refine ⟨v,_,rfl,⟨hg.os,hg.tape,hg.output,λb o hb=> ?_,λb o hb=> ?_⟩,G,hr,rfl,hdis⟩
  ·cases hG:G b with
   |some o'=>rw [PH.and_left hG] at hb;cases hb;exact hg.heap b _ hG
   |none=>
    rw [PH.and_right hG] at hb;have hfr:e.fr b=ZR:=by
     cases hf:e.fr b with
     |none=>rfl
     |some o'=>have:=(hand (hs.frame b o' hf).1).2;rw [hb] at this;cases this
    exact (hg.frame b o ((PH.and_right hfr).trans hb)).2
  ·obtain ⟨h1,_⟩:=hs.frame b o hb;have h3:=(hand h1).2;obtain ⟨h4,h5⟩:=hg.frame b o (PH.and_left hb);exact ⟨by rw [PH.and_right h4];exact h3,h5⟩
theorem aj.mono {P:Program} {f:FuncId} {args:Array Value} {F:PH} {R R':Value->PH->Prop} (h:aj P f args F R) (hr:∀v F',R v F'->R' v F'):
  aj P f args F R':=λe w hs=>(h e w hs).mono λ_ _ ⟨v,F',h1,h2,h3⟩=>⟨v,F',h1,h2,hr v F' h3⟩
def HC (P:Program) (n:Nat) (c:Code) (Q:Exit->En->PH->Prop) (E:En) (F:PH):Prop:=
 ∀e a w,Ag P n a E->Sat e w F->c.wp P (QL P e n Q) a w
def HL (P:Program) (n:Nat) (ops:Array Oper) (Q:Exit->En->PH->Prop) (l:List Oper) (E:En) (F:PH):Prop:=
 ∀e a w,Ag P n a E->Sat e w F->wpList P ops (QL P e n Q) l a w
abbrev Of (K:En->PH->Prop) (Q:Exit->En->PH->Prop):Exit->En->PH->Prop
 | .normal,E,F=>K E F
 |x,E,F=>Q x E F
abbrev HT (id:Nat) (Q:Exit->En->PH->Prop):Exit->En->PH->Prop
 | .exit i,E,F=>bif Nat.beq i id then Q .normal E F else Q (.exit i) E F
 |x,E,F=>Q x E F
section
variable {P:Program} {n:Nat} {Q:Exit->En->PH->Prop} {E:En} {F:PH}
theorem KW (h:Q .normal E F):HC P n .skip Q E F:=λ_ _ _ ag st=>wp_skip ⟨E,F,ag,st,h⟩
theorem PF (h:Q .ret E F):HC P n .ret Q E F:=λ_ _ _ ag st=>wp_ret ⟨E,F,ag,st,h⟩
theorem KX {id:Nat} (h:Q (.exit id) E F):HC P n (.exit id) Q E F:=λ_ _ _ ag st=>wp_exit ⟨E,F,ag,st,h⟩
theorem AR {x y:Code} (h:HC P n x (Of (HC P n y Q) Q) E F):HC P n (.seq x y) Q E F:=λe a w ag st=>
 wp_seq (wp_mono (h e a w ag st) λex a' w' ⟨E',F',ag',st',q⟩=>by
  cases ex with
  |normal=>exact q e a' w' ag' st'
  |_=>exact ⟨E',F',ag',st',q⟩)
theorem qy {c:Operand} {x y:Code} {t:Bool} (hc:ev E c=.bool t) (h1:t=ZT->HC P n x Q E F) (h2:t=ZQ->HC P n y Q E F):
  HC P n (.cond c x y) Q E F:=λe a w ag st=>
 wp_cond_split (by rw [ag.eval];exact hc) (λht=>h1 ht e a w ag st) (λht=>h2 ht e a w ag st)
theorem HU {l:Nat} (h:Q .normal E F):HC P n (.label l) Q E F:=λ_ _ _ ag st=>wp_label ⟨E,F,ag,st,h⟩
def Xe (Q:Exit->En->PH->Prop):Exit->En->PH->Prop
 | .goto _,_,_=>False
 |x,E,F=>Q x E F
theorem HV {c:Code} (h:HC P n c (Xe Q) E F):HC P n (.scope c) Q E F:=λe a w ag st=>
 wp_scope_straight (wp_mono (h e a w ag st) λex a' w' ⟨E',F',ag',st',q⟩=>by
  cases ex with
  |goto l=>exact q.elim
  |_=>exact ⟨E',F',ag',st',q⟩)
theorem HW {id:Nat} {c:Code} (h:HC P n c (HT id Q) E F):HC P n (.block id c) Q E F:=λe a w ag st=>
 wp_block (wp_mono (h e a w ag st) λex a' w' ⟨E',F',ag',st',q⟩=>by
  cases ex with
  |exit i=>
   simp only [Exit.inBlock,HT] at q ⊢;by_cases hi:i=id
   ·subst hi;have:Nat.beq i i=ZT:=by simp
    simp only [this,cond_true] at q;rw [Χ rfl];exact ⟨E',F',ag',st',q⟩
   ·have:Nat.beq i id=ZQ:=kX hi;simp only [this,cond_false] at q;rw [Υ hi];exact ⟨E',F',ag',st',q⟩
  |_=>exact ⟨E',F',ag',st',q⟩)
theorem KY {c:Code} (I:Nat->En->PH->Prop) (m0:Nat) (h0:I m0 E F)
  (round:∀m E F,I m E F->HC P n c (Of (λE' F'=>∃m',m'<m/\I m' E' F') Q) E F):HC P n (.loop c) Q E F:=by
 intro e a w ag st b k cs;have key:∀m a w E F,Ag P n a E->Sat e w F->I m E F->
   ∃ex a' w',QL P e n Q ex a' w'/\Arrives P (lone (b.at a (.code c::.inLoop c::k)) cs w) b k cs ex a' w':=by
  intro m;induction m using Nat.strongRecOn with
  |_ m ih=>
   intro a w E F ag st hI;obtain ⟨ex,a₁,w₁,hq,harr⟩:=round m E F hI e a w ag st b (.inLoop c::k) cs;cases ex with
   |normal=>obtain ⟨E',F',ag',st',m',hlt,hI'⟩:=hq;obtain ⟨e₂,a₂,w₂,hq₂,harr₂⟩:=ih m' hlt a₁ w₁ E' F' ag' st' hI';exact ⟨e₂,a₂,w₂,hq₂,.of_steps (Steps.trans harr (.one step_inLoop)) harr₂⟩
   |exit id=>exact ⟨_,a₁,w₁,hq,.pass (x:=.inLoop c) rfl (λ_ _=> .inl (by simp)) harr⟩
   |goto l=>exact ⟨_,a₁,w₁,hq,.pass (x:=.inLoop c) rfl (λ_ _=> .inl (by simp)) harr⟩
   |ret=>exact ⟨_,a₁,w₁,hq,.pass (x:=.inLoop c) rfl (λ_ _=> .inl (by simp)) harr⟩
   |panic ch=>exact ⟨_,a₁,w₁,hq,.pass (x:=.inLoop c) rfl (λ_ _=> .inl (by simp)) harr⟩
   |outgrown=>exact ⟨_,a₁,w₁,hq,.pass (x:=.inLoop c) rfl (λ_ _=> .inl (by simp)) harr⟩
 obtain ⟨ex,a',w',hq,harr⟩:=key m0 a w E F ag st h0;exact ⟨ex,a',w',hq,.of_steps (.one step_loop) harr⟩
theorem ET {id:Nat} {l:List Oper} (h:HL P n l.toArray Q l E F):HC P n (.region id l.toArray ZQ) Q E F:=λe a w ag st=>
 wp_region_lit (h e a w ag st)
def bM (P:Program) (K:En->PH->Prop) (o:Oper) (E:En):Next->PH->Prop
 | .value v,F=>K (cZ E o.dst v) F
 | .skip,F=>K (cZ E o.dst undef) F
 | .enter f args,F=>aj P f args F λv F'=>K (cZ E o.dst v) F'
 | .defer d,F=>AQ P d/\K (cZ E o.dst undef) F
 |_,_=>False
theorem Og {o:Oper} {e:Ev} {a:Act} {w:World} {K:En->PH->Prop} {K':Act->World->Prop} {Q':Exit->Act->World->Prop} (ag:Ag P n a E) (st:Sat e w F) (hd:fO n o.dst=ZT)
  (hk:∀a w E F,Ag P n a E->Sat e w F->K E F->K' a w)
  (h:aH P (execOp (ev E) o) F (bM P K o E)):o.wp P a w K' Q':=by
 obtain ⟨nx,w',F',hr,st',hq⟩:=AO _ F w _ h st;unfold Oper.wp;rw [ag.eval,hr];cases nx with
 |value v=>exact hk _ _ _ _ (ag.put v hd) st' hq
 |skip=>exact hk _ _ _ _ (ag.put undef hd) st' hq
 |enter f args=>refine (hq e w' st').mono ?_;rintro _ w'' ⟨v,F'',rfl,st'',hK⟩;exact hk _ _ _ _ (ag.put v hd) st'' hK
 |defer d=>have ag2:Ag P n {a with defers:=d::a.defers} E:=⟨ag.size,λd' h=>(XP.1 h).elim (λe=>e▸hq.1) (ag.defers d'),ag.val⟩;exact hk _ _ _ _ (ag2.put undef hd) st' hq.2
 |_=>exact hq.elim
def yE (ops:Array Oper) (E:En) (j:Nat):Option Bool:=
 match (ops[j]?).bind (·.dst) with
 |some t=>(match E t with| .bool b=>ZO b|_=>ZR)
 |none=>ZR
theorem Ag.yE_eq {a:Act} (h:Ag P n a E) (ops:Array Oper) (j:Nat):yielded ops a.tmps j=yE ops E j:=by
 unfold yielded yE;cases (ops[j]?).bind (·.dst) with
 |none=>rfl
 |some t=>
  have hv:=h.val t;simp only [Option.bind_some];rw [<- hv,YX];cases a.tmps[t]? with
  |none=>rfl
  |some v=>cases v<;>rfl
theorem Ag.wanted_eq {a:Act} (h:Ag P n a E) (ops:Array Oper) (o:Oper):Region.wanted o (yielded ops a.tmps)=Region.wanted o (yE ops E):=by
 unfold Region.wanted;cases o.guard with
 |none=>rfl
 |some g=>simp only [h.yE_eq]
theorem PG {ops:Array Oper} (h:Q .normal E F):HL P n ops Q [] E F:=λ_ _ _ ag st=>wpList_nil ⟨E,F,ag,st,h⟩
theorem Oh {ops:Array Oper} {o:Oper} {l:List Oper} (hw:Region.wanted o (yE ops E)=ZT) (hd:fO n o.dst=ZT)
  (h:aH P (execOp (ev E) o) F (bM P (HL P n ops Q l) o E)):HL P n ops Q (o::l) E F:=λe a w ag st=>by
 unfold wpList;rw [ag.wanted_eq,Χ hw];exact .inl (Og ag st hd (λa w E F ag st hk=>hk e a w ag st) h)
theorem KZ {ops:Array Oper} {o:Oper} {l:List Oper} (hw:Region.wanted o (yE ops E)=ZQ) (hd:fO n o.dst=ZT)
  (h:HL P n ops Q l (cZ E o.dst undef) F):HL P n ops Q (o::l) E F:=λe a w ag st=>by
 unfold wpList;rw [ag.wanted_eq,Υ (by simp [hw])];exact h e _ _ (ag.put undef hd) st
def sW (P:Program) (fn:Func) (E:En) (F:PH) (v:Value):Prop:=
 ∀e w tmps,Sat e w F->(∀t:Nat,Array.getD tmps t undef=E t)->(results fn tmps).run P w=.ok v w
abbrev K9 (P:Program) (fn:Func) (R:Value->PH->Prop):Exit->En->PH->Prop
 | .normal,E,F| .ret,E,F=>∃v,sW P fn E F v/\R v F
 |_,_,_=>False
theorem La {f:FuncId} {fn:Func} {c:Code} {args:List Value} {R:Value->PH->Prop} (hf:P.funcs[f]? =ZO fn) (hb:fn.body=ZO c)
  (hn:fn.ntmps=n) (hs:Nat.ble args.length n=ZT) (h:HC P n c (K9 P fn R) (PE args) F):aj P f args.toArray F R:=λe w st=>by
 have hs':args.length<=n:=by simpa [Nat.ble_eq] using hs
 refine calls_of_wp_defers hf hb ?_;refine wp_mono (h e _ w ⟨?_,λ_ h=>(by cases h),λt=> ?_⟩ st) ?_
 ·simp [hn];omega
 ·simp only [PE,YX,Yg,Array.getElem?_append,Zt,Array.getElem?_replicate];by_cases ht:t<args.length
  ·simp [ht]
  ·simp only [ht,if_false];rw [Yi (by omega)];split<;>rfl
 ·rintro ex a' w' ⟨E',F',ag',st',q⟩;cases ex with
  |normal=>obtain ⟨v,hr,hR⟩:=q;exact jG (hr e w' _ st' ag'.val) ⟨v,F',rfl,st',hR⟩ _ ag'.defers
  |ret=>obtain ⟨v,hr,hR⟩:=q;exact jG (hr e w' _ st' ag'.val) ⟨v,F',rfl,st',hR⟩ _ ag'.defers
  |_=>exact q.elim
end
section
variable {P:Program} {ops:Array Oper} {md:Region.Mode}
def Oper.waits (md:Region.Mode) (o:Oper) (r:Nat):Bool:=o.after.toList.any λe=>Region.binds md e && e.on==r
theorem AT {o:Oper} {r:Nat}:Oper.waits md o r=ZQ↔∀e∈o.after,Region.binds md e=ZT->e.on≠r:=by
 unfold Oper.waits;rw [<- Zl,YO];constructor
 ·intro h x hx hb heq;exact h ⟨x,by simpa using hx,by simp [hb,heq]⟩
 ·rintro h ⟨x,hx,hp⟩;simp only [Yt,beq_iff_eq] at hp;exact h x (by simpa using hx) hp.1 hp.2
abbrev cw:=List (Nat×(World->Prop))
def cw.hold (Sp:cw) (w:World):Prop:=∀r∈Sp,r.2 w
def cw.rest (md:Region.Mode) (o:Oper) (Sp:cw):cw:=Sp.filter λr=> !Oper.waits md o r.1
def iQ (P:Program) (md:Region.Mode) (ops:Array Oper) (Q:Exit->Act->World->Prop):Nat->Array Bool->cw->Act->World->Prop
 |0,listed,_,a,w=>Region.ready md ops listed=[]/\Q .normal a w
 |fuel+1,listed,Sp,a,w=>
  (Region.ready md ops listed=[]->Q .normal a w)/\
  ∀i∈Region.ready md ops listed,∀o,ops[i]? =ZO o->
   wpOp P ops Q i (λa' w'=>(Sp.rest md o).hold w'/\iQ P md ops Q fuel (listed.setIfInBounds i ZT) (Sp.rest md o) a' w') a w
variable {Q:Exit->Act->World->Prop}
theorem sX:∀(fuel:Nat) (listed:Array Bool) (Sp:cw) (a:Act) (w:World),iQ P md ops Q fuel listed Sp a w->wpAny P md ops Q fuel listed a w
 |0,_,_,_,_,h=>h
 |fuel+1,_,_,_,_,h=>⟨h.1,λi hi=>by
   obtain ⟨_,o,ho,_⟩:=mem_ready.1 hi
   exact wpOp_mono (λa' w' h'=>sX fuel _ _ a' w' h'.2) (h.2 i hi o ho)⟩
theorem cw.rest_sub {o:Oper} {Sp Sp':cw} (h:∀r∈Sp',r∈Sp):∀r∈cw.rest md o Sp',r∈cw.rest md o Sp:=by intro r hr;unfold cw.rest at*;rw [Zg] at*;exact ⟨h r hr.1,hr.2⟩
theorem sY:∀(fuel:Nat) (listed:Array Bool) (Sp Sp':cw) (a:Act) (w:World),(∀r∈Sp',r∈Sp)->iQ P md ops Q fuel listed Sp a w->
  iQ P md ops Q fuel listed Sp' a w
 |0,_,_,_,_,_,_,h=>h
 |fuel+1,_,_,_,_,_,hs,h=>⟨h.1,λi hi o ho=>wpOp_mono (λa' w' h'=>⟨λr hr=>h'.1 r (cw.rest_sub hs r hr),sY fuel _ _ _ a' w' (cw.rest_sub hs) h'.2⟩) (h.2 i hi o ho)⟩
theorem mP {S:World->Prop} {i:Nat} {oi:Oper} {v:Value} (hi:ops[i]? =ZO oi) (hsel:∀(j:Nat) (o:Oper) cs b,ops[j]? =ZO o->o.op≠.select cs b)
  (hQ:∀c a w,Q (.panic c) (a.put oi.dst v) w->Q (.panic c) a w):
  ∀(fuel:Nat) (listed:Array Bool) (Sp:cw) (a:Act) (w:World),
   (∀j oj,ops[j]? =ZO oj->j≠i->listed.getD j ZT=ZQ->(∀e∈oj.after,Region.binds md e=ZT->e.on≠i)->oi.apart ops oj=ZT)->
   i∈Region.ready md ops listed->YieldsIf P ops S oi v a->S w->Sp.hold w->
   iQ P md ops Q fuel (listed.setIfInBounds i ZT) ((i,S)::Sp) (a.put oi.dst v) w->iQ P md ops Q (fuel+1) listed Sp a w:=by
 intro fuel;induction fuel with
 |zero=>
  intro listed Sp a w _ hr hy hS hh H;refine ⟨λh=>(by rw [h] at hr;cases hr),λj hj oj hoj=> ?_⟩;by_cases hji:j=i
  ·subst hji;exact hy.wpOp hi hS ⟨λr hr'=>hh r (Zg.1 hr').1,H⟩
  ·have:=ready_mono hj hji;rw [H.1] at this;cases this
 |succ fuel ih=>
  intro listed Sp a w hfree hr hy hS hh H;refine ⟨λh=>(by rw [h] at hr;cases hr),λj hj oj hoj=> ?_⟩;by_cases hji:j=i
  ·subst hji;refine hy.wpOp hi hS ⟨λr hr'=>hh r (Zg.1 hr').1,?_⟩;exact sY (fuel+1) _ _ _ _ _ (λr hr'=>X8 _ (Zg.1 hr').1) H
  ·have h1:=H.2 j (ready_mono hj hji) oj hoj;obtain ⟨hjun,oj',hoj',hall⟩:=mem_ready.1 hj;obtain rfl:oj'=oj:=by rw [hoj] at hoj';exact (Yh hoj').symm
   have hnot:∀e∈oj'.after,Region.binds md e=ZT->e.on≠i:=λe he hb heq=>by
    have h1:=hall e he hb;have h0:=(mem_ready.1 hr).1;rw [heq] at h1;rcases Nat.lt_or_ge i listed.size with h'|h'
    ·simp [h'] at h0 h1;rw [h0] at h1;cases h1
    ·simp [Array.getElem?_eq_none h'] at h1
   have hw:Oper.waits md oj' i=ZQ:=AT.2 hnot;have hrest:cw.rest md oj' ((i,S)::Sp)=(i,S)::cw.rest md oj' Sp:=by unfold cw.rest;rw [List.filter_cons_of_pos (by simp [hw])]
   rw [hrest] at h1;have h2:=wpOp_putIf hoj (hfree j oj' hoj hji hjun hnot) (λcs b=>hsel i oi cs b hi) (λcs b=>hsel j oj' cs b hoj) hQ hy h1;have hfree':∀k ok,ops[k]? =ZO ok->k≠i->(listed.setIfInBounds j ZT).getD k ZT=ZQ->
     (∀e∈ok.after,Region.binds md e=ZT->e.on≠i)->oi.apart ops ok=ZT:=λk ok hk hki hun hno=>by
    refine hfree k ok hk hki ?_ hno;by_cases hjk:j=k
    ·subst hjk;exact hjun
    ·rw [getD_set_ne ZT hjk] at hun;exact hun
   refine wpOp_mono (λa' w' h3=> ?_) h2;obtain ⟨hy',hhold,h3⟩:=h3;refine ⟨λr hr'=>hhold r (X8 _ hr'),?_⟩;refine ih (listed.setIfInBounds j ZT) _ a' w' hfree' (ready_mono hr (Ne.symm hji)) hy' (hhold _ (YU ..)) (λr hr'=>hhold r (X8 _ hr')) ?_;rw [Array.setIfInBounds_comm _ _ hji];exact h3
end
section
variable {P:Program} {n:Nat} {Q:Exit->En->PH->Prop} {E:En} {F:PH} {ops:Array Oper}
def AU (F:PH) (S:World->Prop):Prop:=∀e w,Sat e w F->S w
def gm (Sp:cw) (F:PH):Prop:=∀r∈Sp,AU F r.2
def RG (P:Program) (n:Nat) (ops:Array Oper) (Q:Exit->En->PH->Prop) (fuel:Nat) (listed:Array Bool) (Sp:cw) (E:En) (F:PH):Prop:=
 ∀e a w,Ag P n a E->Sat e w F->iQ P .any ops (QL P e n Q) fuel listed Sp a w
theorem Lc {id:Nat} (hm:P.follows .mixedOrders=ZT) (h:RG P n ops Q ops.size (Array.replicate ops.size ZQ) [] E F):
  HC P n (.region id ops ZT) Q E F:=λe a w ag st=>
 wp_region_any hm (sX _ _ _ _ _ (h e a _ ag (st.drawn _)))
theorem Ld {fuel:Nat} {listed:Array Bool} {Sp:cw} (hr:Region.ready .any ops listed=[]) (h:Q .normal E F):RG P n ops Q fuel listed Sp E F:=
 λe a w ag st=>by
  cases fuel with
  |zero=>exact ⟨hr,E,F,ag,st,h⟩
  |succ fuel=>exact ⟨λ_=>⟨E,F,ag,st,h⟩,by rw [hr];simp⟩
def Oi (P:Program) (S:World->Prop) (E:En) (o:Oper) (v:Value):Prop:=∀w,S w->(execOp (ev E) o).run P w=.ok (.value v) w
theorem DB {S:World->Prop} {i:Nat} {oi:Oper} {v:Value} {fuel:Nat} {listed:Array Bool} {Sp:cw} (hi:ops[i]? =ZO oi)
  (hs:Region.noSelect ops=ZT) (hf:Region.free .any ops listed i=ZT) (hr:(Region.ready .any ops listed).contains i=ZT) (hd:fO n oi.dst=ZT)
  (hp:∀c E F,¬Q (.panic c) E F) (hw:Region.wanted oi (yE ops E)=ZT) (hy:Oi P S E oi v) (hS:AU F S) (hh:gm Sp F)
  (h:RG P n ops Q fuel (listed.setIfInBounds i ZT) ((i,S)::Sp) (cZ E oi.dst v) F):RG P n ops Q (fuel+1) listed Sp E F:=λe a w ag st=>
 mP hi (Region.noSelect_spec hs) (λc a w ⟨E,F,_,_,q⟩=>(hp c E F q).elim) fuel listed Sp a w (Region.free_spec hi hf) (by simpa using hr)
  (.inl ⟨by rw [ag.wanted_eq];exact hw,λw hw'=>by rw [ag.eval];exact hy w hw'⟩) (hS e w st) (λr hr=>hh r hr e w st) (h e _ w (ag.put v hd) st)
theorem jH {Q:Exit->Act->World->Prop} {md:Region.Mode} (i:Nat):∀(fuel:Nat) (listed:Array Bool) (Sp:cw) (a:Act) (w:World),iQ P md ops Q fuel listed Sp a w->
  iQ P md ops Q fuel listed ((i,λ_=>True)::Sp) a w
 |0,_,_,_,_,h=>h
 |fuel+1,_,Sp,_,_,h=>⟨h.1,λj hj o ho=>wpOp_mono (λa' w' h'=>by
   by_cases hw:Oper.waits md o i=ZT
   ·have:cw.rest md o ((i,λ_=>True)::Sp)=cw.rest md o Sp:=by unfold cw.rest;rw [List.filter_cons_of_neg (by simp [hw])]
    rw [this];exact h'
   ·have:cw.rest md o ((i,λ_=>True)::Sp)=(i,λ_=>True)::cw.rest md o Sp:=by unfold cw.rest;rw [List.filter_cons_of_pos (by simpa using hw)]
    rw [this];refine ⟨λr hr=> ?_,jH i fuel _ _ a' w' h'.2⟩;rcases XP.1 hr with rfl|hr
    ·trivial
    ·exact h'.1 r hr) (h.2 j hj o ho)⟩
theorem Le {i:Nat} {oi:Oper} {v:Value} {fuel:Nat} {listed:Array Bool} {Sp:cw} (hi:ops[i]? =ZO oi)
  (hs:Region.noSelect ops=ZT) (hf:Region.free .any ops listed i=ZT) (hr:(Region.ready .any ops listed).contains i=ZT) (hd:fO n oi.dst=ZT)
  (hp:∀c E F,¬Q (.panic c) E F) (hw:Region.wanted oi (yE ops E)=ZT) (hy:Oi P (λ_=>True) E oi v) (hh:gm Sp F)
  (h:RG P n ops Q fuel (listed.setIfInBounds i ZT) Sp (cZ E oi.dst v) F):RG P n ops Q (fuel+1) listed Sp E F:=
 DB (S:=λ_=>True) hi hs hf hr hd hp hw hy (λ_ _ _=>trivial) hh λe a w ag st=>jH i _ _ _ _ _ (h e a w ag st)
theorem Lf {i:Nat} {oi:Oper} {fuel:Nat} {listed:Array Bool} {Sp:cw} (hi:ops[i]? =ZO oi)
  (hs:Region.noSelect ops=ZT) (hf:Region.free .any ops listed i=ZT) (hr:(Region.ready .any ops listed).contains i=ZT) (hd:fO n oi.dst=ZT)
  (hp:∀c E F,¬Q (.panic c) E F) (hw:Region.wanted oi (yE ops E)=ZQ) (hh:gm Sp F)
  (h:RG P n ops Q fuel (listed.setIfInBounds i ZT) Sp (cZ E oi.dst undef) F):RG P n ops Q (fuel+1) listed Sp E F:=λe a w ag st=>
 mP (S:=λ_=>True) hi (Region.noSelect_spec hs) (λc a w ⟨E,F,_,_,q⟩=>(hp c E F q).elim) fuel listed Sp a w (Region.free_spec hi hf) (by simpa using hr)
  (.inr ⟨by rw [ag.wanted_eq];exact hw,rfl⟩) trivial (λr hr=>hh r hr e w st) (jH i _ _ _ _ _ (h e _ w (ag.put undef hd) st))
def Xf (P:Program) (n:Nat) (ops:Array Oper) (Q:Exit->En->PH->Prop) (fuel:Nat) (listed:Array Bool) (Sp:cw) (E:En) (F:PH) (i:Nat):Prop:=
 ∃o,ops[i]? =ZO o/\fO n o.dst=ZT/\Region.wanted o (yE ops E)=ZT/\
  aH P (execOp (ev E) o) F (bM P (λE' F'=>gm (Sp.rest .any o) F'/\RG P n ops Q fuel (listed.setIfInBounds i ZT) (Sp.rest .any o) E' F') o E)
theorem PI {fuel:Nat} {listed:Array Bool} {Sp:cw} {rs:List Nat} (hr:Region.ready .any ops listed=rs) (hne:rs.isEmpty=ZQ)
  (h:∀i∈rs,Xf P n ops Q fuel listed Sp E F i):RG P n ops Q (fuel+1) listed Sp E F:=λe a w ag st=>by
 subst hr;refine ⟨λh0=>(by rw [h0] at hne;cases hne),λi hi o ho=> ?_⟩;obtain ⟨o',ho',hd,hw,hrun⟩:=h i hi;obtain rfl:o'=o:=by rw [ho] at ho';exact (Yh ho').symm
 unfold wpOp;simp only [ho];rw [ag.wanted_eq,Χ hw];exact .inl (Og ag st hd (λa w E F ag st hk=>⟨λr hr=>hk.1 r hr e w st,hk.2 e a w ag st⟩) hrun)
end
def rdo {α:Type} (P:Program):Sem α->PH->α->Prop
 | .pure a,_,v=>a=v
 | .load _ a k,F,v=>∃x,F.cell a=ZO x/\rdo P (k x) F v
 | .shape r k,F,v=>∃o,F r=ZO o/\rdo P (k (ki o)) F v
 | .frozen a k,F,v=>∃o,F a.block=ZO o/\rdo P (k (uT o a.off)) F v
 | .getObj r k,F,v=>∃o,F r=ZO o/\(∀c e fr,o≠ZP c e fr)/\rdo P (k o) F v
 | .program k,F,v=>rdo P (k P) F v
 | .mark _ k,F,v=>rdo P k F v
 |_,_,_=>False
theorem qz {α:Type} {P:Program} {e:Ev} (s:Sem α):∀(F:PH) (w:World) (v:α),rdo P s F v->Sat e w F->s.run P w=.ok v w:=by
 induction s with
 |pure a=>intro F w v h _;exact congrArg (λx=>Result.ok x w) h
 |load m a k ih=>rintro F w v ⟨x,hc,h⟩ hs;simp only [Sem.run,hs.cell hc];exact ih x F w v h hs
 |shape r k ih=>
  rintro F w v ⟨o,hb,h⟩ hs;have hheap:=hs.heap _ _ hb;have:w.shape? r=ki o:=by unfold World.shape?;rw [hheap];cases o<;>simp [ki]
  simp only [Sem.run,this];exact ih _ F w v h hs
 |frozen a k ih=>
  rintro F w v ⟨o,hb,h⟩ hs;have hheap:=hs.heap _ _ hb;have:w.frozen? a=uT o a.off:=by unfold World.frozen?;rw [hheap];cases o<;>simp [uT,frz]
  simp only [Sem.run,this];exact ih _ F w v h hs
 |getObj r k ih=>
  rintro F w v ⟨o,hb,hn,h⟩ hs;have hheap:=hs.heap _ _ hb;have:(Sem.getObj r k).run P w=(k o).run P w:=by cases o<;>first|exact absurd rfl (hn _ _ _)|simp only [Sem.run,hheap]
  rw [this];exact ih _ F w v h hs
 |program k ih=>intro F w v h hs;exact ih _ F w v h hs
 |mark m k ih=>intro F w v h hs;exact ih F w v h hs
 |_=>intro F w v h;exact h.elim
theorem ip {α:Type} {P:Program} (s:Sem α):∀(F:PH) (v:α) (Q:α->PH->Prop),rdo P s F v->Q v F->aH P s F Q:=by
 induction s with
 |pure a=>intro F v Q h hq;cases h;exact hq
 |load m a k ih=>rintro F v Q ⟨x,hc,h⟩ hq;exact ⟨x,hc,ih x F v Q h hq⟩
 |shape r k ih=>rintro F v Q ⟨o,hb,h⟩ hq;exact ⟨o,hb,ih _ F v Q h hq⟩
 |frozen a k ih=>rintro F v Q ⟨o,hb,h⟩ hq;exact ⟨o,hb,ih _ F v Q h hq⟩
 |getObj r k ih=>rintro F v Q ⟨o,hb,hn,h⟩ hq;exact ⟨o,hb,hn,ih _ F v Q h hq⟩
 |program k ih=>intro F v Q h hq;exact ih _ F v Q h hq
 |mark m k ih=>intro F v Q h hq;exact ih F v Q h hq
 |_=>intro F v Q h;exact h.elim
theorem ak {α β:Type} {P:Program} (s:Sem α) (f:α->Sem β):∀(F:PH) (v:β),rdo P (s>>=f) F v↔∃a,rdo P s F a/\rdo P (f a) F v:=by
 show ∀(F:PH) (v:β),rdo P (s.bind f) F v↔_;induction s with
 |pure a=>intro F v;simp only [Sem.bind,rdo];exact ⟨λh=>⟨a,rfl,h⟩,by rintro ⟨_,rfl,h⟩;exact h⟩
 |load m a k ih=>intro F v;simp only [Sem.bind,rdo,ih];exact ⟨λ⟨x,hc,a,h1,h2⟩=>⟨a,⟨x,hc,h1⟩,h2⟩,λ⟨a,⟨x,hc,h1⟩,h2⟩=>⟨x,hc,a,h1,h2⟩⟩
 |shape r k ih=>intro F v;simp only [Sem.bind,rdo,ih];exact ⟨λ⟨x,hc,a,h1,h2⟩=>⟨a,⟨x,hc,h1⟩,h2⟩,λ⟨a,⟨x,hc,h1⟩,h2⟩=>⟨x,hc,a,h1,h2⟩⟩
 |frozen a k ih=>intro F v;simp only [Sem.bind,rdo,ih];exact ⟨λ⟨x,hc,a,h1,h2⟩=>⟨a,⟨x,hc,h1⟩,h2⟩,λ⟨a,⟨x,hc,h1⟩,h2⟩=>⟨x,hc,a,h1,h2⟩⟩
 |getObj r k ih=>intro F v;simp only [Sem.bind,rdo,ih];exact ⟨λ⟨x,hc,hn,a,h1,h2⟩=>⟨a,⟨x,hc,hn,h1⟩,h2⟩,λ⟨a,⟨x,hc,hn,h1⟩,h2⟩=>⟨x,hc,hn,a,h1,h2⟩⟩
 |program k ih=>intro F v;simp only [Sem.bind,rdo,ih]
 |mark m k ih=>intro F v;simp only [Sem.bind,rdo,ih]
 |_=>intro F v;simp [Sem.bind,rdo]
@[simp] theorem cM {α:Type} {P:Program} (a v:α) (F:PH):rdo P (pure a:Sem α) F v↔a=v:=Iff.rfl
@[simp] theorem aL {α:Type} {P:Program} (a:α) (F:PH) (Q:α->PH->Prop):aH P (pure a:Sem α) F Q↔Q a F:=Iff.rfl
@[simp] theorem Lh {α β:Type} {P:Program} (f:α->β) (s:Sem α) (F:PH) (v:β):rdo P (Functor.map f s) F v↔∃a,rdo P s F a/\f a=v:=ak s (λa=>pure (f a)) F v
@[simp] theorem UI {α β:Type} {P:Program} (f:α->β) (s:Sem α) (F:PH) (Q:β->PH->Prop):aH P (Functor.map f s) F Q↔aH P s F (λa F'=>Q (f a) F'):=uU s (λa=>pure (f a)) F Q
def tsz (P:Program) (t:TypeId):Option (Nat×Nat):=(P.info? t).map λi=>(i.size,i.bytes)
def bP (P:Program) (t:TypeId):Option Value:=(P.info? t).bind (·.zero)
theorem sZ {P:Program} {t s b:Nat} (h:tsz P t=ZO (s,b)):∃i,P.info? t=ZO i/\i.size=s/\i.bytes=b:=by
 unfold tsz at h;cases hi:P.info? t with
 |none=>simp [hi] at h
 |some i=>simp [hi] at h;exact ⟨i,rfl,h.1,h.2⟩
theorem s8 {P:Program} {t:Nat} {z:Value} (h:bP P t=ZO z):∃i,P.info? t=ZO i/\i.zero=ZO z:=by
 unfold bP at h;cases hi:P.info? t with
 |none=>simp [hi] at h
 |some i=>simp [hi] at h;exact ⟨i,rfl,h⟩
section
variable {P:Program} {F:PH}
theorem bE {t s b:Nat} (h:tsz P t=ZO (s,b)) (v:Nat):rdo P (sizeOf t) F v↔s=v:=by
 obtain ⟨i,h1,h2,h3⟩:=sZ h;unfold sizeOf typeInfo program;simp only [ak];constructor
 ·rintro ⟨i',⟨p,hp,h⟩,h'⟩;simp only [rdo] at hp;subst hp;rw [h1] at h;simp only [cM] at h h';subst h;rw [<- h2];exact h'
 ·rintro rfl;refine ⟨i,⟨P,rfl,?_⟩,?_⟩
  ·rw [h1];rfl
  ·rw [<- h2];rfl
theorem fE {t s b:Nat} (h:tsz P t=ZO (s,b)) (Q:Nat->PH->Prop):aH P (sizeOf t) F Q↔Q s F:=by obtain ⟨i,h1,h2,h3⟩:=sZ h;unfold sizeOf typeInfo program;simp only [aD,aH,h1,aL,h2]
theorem fQ {t s b:Nat} (h:tsz P t=ZO (s,b)):∃i:TypeInfo,i.bytes=b/\∀(F:PH) (Q:TypeInfo->PH->Prop),aH P (typeInfo t) F Q↔Q i F:=by obtain ⟨i,h1,h2,h3⟩:=sZ h;refine ⟨i,h3,λF Q=> ?_⟩;unfold typeInfo program;simp only [aD,aH,h1,aL]
theorem az {t:Nat} {d:TypeDesc} (h:P.underlying t=ZO d) (v:TypeDesc):rdo P (underlying t) F v↔d=v:=by
 unfold underlying program;simp only [ak];constructor
 ·rintro ⟨p,hp,h'⟩;simp only [rdo] at hp;subst hp;rw [h] at h';exact h'
 ·rintro rfl;exact ⟨P,rfl,by rw [h];rfl⟩
theorem ca {t:Nat} {d:TypeDesc} (h:P.underlying t=ZO d) (Q:TypeDesc->PH->Prop):aH P (underlying t) F Q↔Q d F:=by unfold underlying program;simp only [aD,aH,h,aL]
theorem eR {t:Nat} {z:Value} (h:bP P t=ZO z) (Q:Value->PH->Prop):aH P (zeroValue t) F Q↔Q z F:=by obtain ⟨i,h1,h2⟩:=s8 h;unfold zeroValue typeInfo program;simp only [aD,aH,h1,aL,h2]
theorem gR {t:Nat} {z:Value} (h:bP P t=ZO z) (v:Value):rdo P (zeroValue t) F v↔z=v:=by
 obtain ⟨i,h1,h2⟩:=s8 h;unfold zeroValue typeInfo program;simp only [ak];constructor
 ·rintro ⟨i',⟨p,hp,h⟩,h'⟩;simp only [rdo] at hp;subst hp;rw [h1] at h;simp only [cM] at h;subst h;rw [h2] at h';exact h'
 ·rintro rfl;exact ⟨i,⟨P,rfl,by rw [h1];rfl⟩,by rw [h2];rfl⟩
def RD (P:Program) (E:En) (F:PH) (o:Oper) (v:Value):Prop:=rdo P (execOp (ev E) o) F (.value v)
variable {n:Nat} {Q:Exit->En->PH->Prop} {E:En} {ops:Array Oper} {o:Oper} {l:List Oper}
theorem UJ {v:Value} (h:RD P E F o v) (K:HL P n ops Q l (cZ E o.dst v) F) (hw:Region.wanted o (yE ops E)=ZT:=by rfl) (hd:fO n o.dst=ZT:=by rfl):
  HL P n ops Q (o::l) E F:=Oh hw hd (ip _ _ _ _ h K)
theorem UK {i:Nat} {oi:Oper} {v:Value} {fuel:Nat} {listed:Array Bool} {Sp:cw} (hi:ops[i]? =ZO oi)
  (hs:Region.noSelect ops=ZT) (hf:Region.free .any ops listed i=ZT) (hr:(Region.ready .any ops listed).contains i=ZT) (hd:fO n oi.dst=ZT)
  (hp:∀c E F,¬Q (.panic c) E F) (hw:Region.wanted oi (yE ops E)=ZT) (hy:RD P E F oi v) (hh:gm Sp F)
  (h:RG P n ops Q fuel (listed.setIfInBounds i ZT) ((i,λw=>∃e F,Sat e w F/\RD P E F oi v)::Sp) (cZ E oi.dst v) F):RG P n ops Q (fuel+1) listed Sp E F:=
 DB hi hs hf hr hd hp hw (λw ⟨e,_,st,h⟩=>qz _ _ _ _ h st) (λe w st=>⟨e,F,st,hy⟩) hh h
theorem UL {i:Nat} {oi:Oper} {v:Value} {fuel:Nat} {listed:Array Bool} {Sp:cw} (hi:ops[i]? =ZO oi)
  (hs:Region.noSelect ops=ZT) (hf:Region.free .any ops listed i=ZT) (hr:(Region.ready .any ops listed).contains i=ZT) (hd:fO n oi.dst=ZT)
  (hp:∀c E F,¬Q (.panic c) E F) (hw:Region.wanted oi (yE ops E)=ZT) (hy:∀F,RD P E F oi v) (hh:gm Sp F)
  (h:RG P n ops Q fuel (listed.setIfInBounds i ZT) Sp (cZ E oi.dst v) F):RG P n ops Q (fuel+1) listed Sp E F:=
 Le hi hs hf hr hd hp hw (λw _=>by
  have st:Sat ⟨w.os,w.tape,w.output,λ_=>ZR⟩ w (λ_=>ZR):=⟨rfl,rfl,rfl,λb o h=>(by cases h),λb o h=>(by cases h)⟩
  exact qz _ _ _ _ (hy _) st) hh h
theorem DC {v:Value} (h:RD P E F o v):AU F (λw=>∃e F,Sat e w F/\RD P E F o v):=λe _ st=>⟨e,F,st,h⟩
end
structure Sl where
 ZK:Option Addr
 len:Nat
 cap:Nat
def Sl.v (s:Sl):Value:=.slice s.ZK s.len s.cap
def Sl.nil:Sl:=⟨ZR,0,0⟩
theorem aR {x:Int} (h1: -9223372036854775808<=x) (h2:x<=9223372036854775807:=by omega):IntKind.i64.wrap x=x:=by
 have e:IntKind.i64.wrap x=if x % 18446744073709551616≥9223372036854775808 then x % 18446744073709551616 - 18446744073709551616 else x % 18446744073709551616:=by unfold IntKind.wrap;simp [IntKind.bits,IntKind.signed]
 rw [e];split<;>omega
section
variable {P:Program} {F:PH} {E:En} {o:Oper}
theorem PJ {x:Operand} {v:Value} (ho:o.op=.move x) (hx:ev E x=v):RD P E F o v:=by simp only [RD,execOp,ho,cM,hx]
theorem HX {x:Operand} {v:Value} (ho:o.op=.assign x) (hx:ev E x=v):RD P E F o v:=by simp only [RD,execOp,ho,cM,hx]
theorem wX {c a b:Operand} {t:Bool} {v:Value} (ho:o.op=.pick c a b) (hc:ev E c=.bool t) (h1:t=ZT->ev E a=v) (h2:t=ZQ->ev E b=v):RD P E F o v:=by
 cases t
 ·simp [RD,execOp,ho,hc,asBool,h2]
 ·simp [RD,execOp,ho,hc,asBool,h1]
abbrev VP:=Value->PH->Prop
abbrev nx1 {α:Type} (I:Nat->α->PH->Prop) (m:Nat):α->PH->Prop:=λa F=>∃m',m'<m/\I m' a F
abbrev nx2 {α β:Type} (I:Nat->α->β->PH->Prop) (m:Nat):α->β->PH->Prop:=λa b F=>∃m',m'<m/\I m' a b F
abbrev nx3 {α β γ:Type} (I:Nat->α->β->γ->PH->Prop) (m:Nat):α->β->γ->PH->Prop:=λa b c F=>∃m',m'<m/\I m' a b c F
theorem XL {c a b:Operand} {v:Value} (ho:o.op=.pick c a b) (hc:ev E c=.bool ZQ) (h2:ev E b=v:=by rfl):RD P E F o v:=wX ho hc (λh=>by cases h) (λ_=>h2)
theorem XM {c a b:Operand} {v:Value} (ho:o.op=.pick c a b) (hc:ev E c=.bool ZT) (h2:ev E a=v:=by rfl):RD P E F o v:=wX ho hc (λ_=>h2) (λh=>by cases h)
theorem AV {x:Operand} {a:Addr} (ho:o.op=.nilCheck x) (hx:ev E x=.pointer (ZO a)):RD P E F o (.pointer (ZO a)):=by simp [RD,execOp,ho,hx]
theorem yK {x:Operand} {f:FuncId} {a b:Array Value} (ho:o.op=.nilCheck x) (hx:ev E x=.func (.func f) a b):RD P E F o (.func (.func f) a b):=by simp [RD,execOp,ho,hx]
theorem uV {x:Operand} {vs:Array Value} {i:Nat} {v:Value} (ho:o.op=.extract x i) (hx:ev E x=.tuple vs) (hi:vs[i]? =ZO v):RD P E F o v:=by simp [RD,execOp,ho,hx,Instr.extract,hi]
theorem AW {fn:Fn} {first captured:Array Operand} {a b:Array Value} (ho:o.op=.makeFunc fn first captured) (h1:first.map (ev E)=a) (h2:captured.map (ev E)=b):
  RD P E F o (.func fn a b):=by
 simp [RD,execOp,ho,h1,h2,Instr.makeFunc]
section
variable {x y:Operand} {t t':TypeId} {k:IntKind} {a b:Int}
theorem UM (ho:o.op=.binOp .add t x y t') (hx:ev E x=.int k a) (hy:ev E y=.int k b):RD P E F o (.int k (k.wrap (a+b))):=by simp [RD,execOp,ho,hx,hy,binOp,eqGuard,Op.intArith]
theorem UN (ho:o.op=.binOp .sub t x y t') (hx:ev E x=.int k a) (hy:ev E y=.int k b):RD P E F o (.int k (k.wrap (a - b))):=by simp [RD,execOp,ho,hx,hy,binOp,eqGuard,Op.intArith]
theorem UO (ho:o.op=.binOp .mul t x y t') (hx:ev E x=.int k a) (hy:ev E y=.int k b):RD P E F o (.int k (k.wrap (a*b))):=by simp [RD,execOp,ho,hx,hy,binOp,eqGuard,Op.intArith]
theorem Oj (ho:o.op=.binOp .quo t x y t') (hx:ev E x=.int k a) (hy:ev E y=.int k b) (hb:b≠0):RD P E F o (.int k (k.wrap (a.tdiv b))):=by simp [RD,execOp,ho,hx,hy,binOp,eqGuard,Op.intDiv,hb]
theorem Ok (ho:o.op=.binOp .rem t x y t') (hx:ev E x=.int k a) (hy:ev E y=.int k b) (hb:b≠0):RD P E F o (.int k (a.tmod b)):=by simp [RD,execOp,ho,hx,hy,binOp,eqGuard,Op.intDiv,hb]
theorem UP (ho:o.op=.binOp .and t x y t') (hx:ev E x=.int k a) (hy:ev E y=.int k b):RD P E F o (.int k (k.wrap ((BitVec.ofInt k.bits a &&& BitVec.ofInt k.bits b).toNat))):=by simp [RD,execOp,ho,hx,hy,binOp,eqGuard,Op.intBits]
theorem Xg (ho:o.op=.binOp .or t x y t') (hx:ev E x=.int k a) (hy:ev E y=.int k b):RD P E F o (.int k (k.wrap ((BitVec.ofInt k.bits a ||| BitVec.ofInt k.bits b).toNat))):=by simp [RD,execOp,ho,hx,hy,binOp,eqGuard,Op.intBits]
theorem UQ (ho:o.op=.binOp .xor t x y t') (hx:ev E x=.int k a) (hy:ev E y=.int k b):RD P E F o (.int k (k.wrap ((BitVec.ofInt k.bits a ^^^ BitVec.ofInt k.bits b).toNat))):=by simp [RD,execOp,ho,hx,hy,binOp,eqGuard,Op.intBits]
theorem HY (ho:o.op=.binOp .andNot t x y t') (hx:ev E x=.int k a) (hy:ev E y=.int k b):RD P E F o (.int k (k.wrap ((BitVec.ofInt k.bits a &&& ~~~ BitVec.ofInt k.bits b).toNat))):=by simp [RD,execOp,ho,hx,hy,binOp,eqGuard,Op.intBits]
theorem UR (ho:o.op=.binOp .lss t x y t') (hx:ev E x=.int k a) (hy:ev E y=.int k b):RD P E F o (.bool (decide (a<b))):=by simp [RD,execOp,ho,hx,hy,binOp,eqGuard,Op.intCmp]
theorem US (ho:o.op=.binOp .leq t x y t') (hx:ev E x=.int k a) (hy:ev E y=.int k b):RD P E F o (.bool (decide (a<=b))):=by simp [RD,execOp,ho,hx,hy,binOp,eqGuard,Op.intCmp]
theorem UT (ho:o.op=.binOp .gtr t x y t') (hx:ev E x=.int k a) (hy:ev E y=.int k b):RD P E F o (.bool (decide (b<a))):=by simp [RD,execOp,ho,hx,hy,binOp,eqGuard,Op.intCmp]
theorem UU (ho:o.op=.binOp .geq t x y t') (hx:ev E x=.int k a) (hy:ev E y=.int k b):RD P E F o (.bool (decide (b<=a))):=by simp [RD,execOp,ho,hx,hy,binOp,eqGuard,Op.intCmp]
theorem UV (ho:o.op=.binOp .eql t x y t') (hx:ev E x=.int k a) (hy:ev E y=.int k b):RD P E F o (.bool (a==b)):=by simp [RD,execOp,ho,hx,hy,binOp,eqGuard,Op.intCmp]
theorem UW (ho:o.op=.binOp .neq t x y t') (hx:ev E x=.int k a) (hy:ev E y=.int k b):RD P E F o (.bool (a !=b)):=by simp [RD,execOp,ho,hx,hy,binOp,eqGuard,Op.intCmp]
theorem Ol {k':IntKind} (ho:o.op=.binOp .shl t x y t') (hx:ev E x=.int k a) (hy:ev E y=.int k' b) (hb:0<=b):RD P E F o (.int k (k.wrap (a*2 ^ (min b.toNat k.bits)))):=by simp [RD,execOp,ho,hx,hy,binOp,eqGuard,Op.shift,Int.not_lt.2 hb]
theorem Om {k':IntKind} (ho:o.op=.binOp .shr t x y t') (hx:ev E x=.int k a) (hy:ev E y=.int k' b) (hb:0<=b):RD P E F o (.int k (a.fdiv (2 ^ (min b.toNat k.bits)))):=by simp [RD,execOp,ho,hx,hy,binOp,eqGuard,Op.shift,Int.not_lt.2 hb]
theorem UX (ho:o.op=.unOp .neg t x) (hx:ev E x=.int k a):RD P E F o (.int k (k.wrap (0 - a))):=by simp [RD,execOp,ho,hx,Op.unary,Op.intArith]
theorem HZ {c:Bool} (ho:o.op=.unOp .not t x) (hx:ev E x=.bool c):RD P E F o (.bool !c):=by simp [RD,execOp,ho,hx,Op.unary]
theorem EU {k':IntKind} {d:TypeDesc} (ho:o.op=.convert t t' x) (hx:ev E x=.int k a) (h1:P.underlying t=ZO d) (h2:P.underlying t'=ZO (.int k')):RD P E F o (.int k' (k'.wrap a)):=by simp [RD,execOp,ho,hx,convert,ak,az h1,az h2,Conv.intToInt]
theorem uW {m:Nat} {c d:Bool} (h1:P.underlying t=ZO .bool):rdo P (Op.equalIn (m+1) t (.bool c) (.bool d)) F (c==d):=by simp only [Op.equalIn,ak];exact ⟨_,(az h1 _).2 rfl,rfl⟩
theorem uX {m:Nat} {p:Option Addr} {e':TypeId} (h1:P.underlying t=ZO (.pointer e')):rdo P (Op.equalIn (m+1) t (.pointer p) (.pointer ZR)) F p.isNone:=by simp only [Op.equalIn,ak];refine ⟨_,(az h1 _).2 rfl,?_⟩;cases p<;>rfl
theorem cn {op:BinOp} {v u:Value} (h:(match v,u with| .nilIface,.nilIface=>ZQ| .agg _,.agg _=>ZQ|_,_=>ZT)=ZT):rdo P (eqGuard op t x y v u) F ():=by unfold eqGuard;cases op<;>simp<;>(split<;>first|(simp at h;done)|rfl)
theorem qA {v u:Value} {r:Bool} (ho:o.op=.binOp .eql t x y t') (hx:ev E x=v) (hy:ev E y=u) (hg:rdo P (eqGuard .eql t x y v u) F ()) (he:rdo P (Op.equal t v u) F r)
  (hb:binOp .eql t v u=(do pure (.bool (<- Op.equal t v u)))):RD P E F o (.bool r):=by
 simp only [RD,execOp,ho,hx,hy,ak];refine ⟨.bool r,⟨(),hg,?_⟩,rfl⟩;rw [hb,ak];exact ⟨r,he,rfl⟩
theorem qB {v u:Value} {r:Bool} (ho:o.op=.binOp .neq t x y t') (hx:ev E x=v) (hy:ev E y=u) (hg:rdo P (eqGuard .neq t x y v u) F ()) (he:rdo P (Op.equal t v u) F r)
  (hb:binOp .neq t v u=(do pure (.bool (!(<- Op.equal t v u))))):RD P E F o (.bool (!r)):=by
 simp only [RD,execOp,ho,hx,hy,ak];refine ⟨.bool (!r),⟨(),hg,?_⟩,rfl⟩;rw [hb,ak];exact ⟨r,he,rfl⟩
theorem PK {c d:Bool} (ho:o.op=.binOp .eql t x y t') (hx:ev E x=.bool c) (hy:ev E y=.bool d) (h1:P.underlying t=ZO .bool):RD P E F o (.bool (c==d)):=
 qA ho hx hy (cn rfl) (uW h1) rfl
theorem PL {c d:Bool} (ho:o.op=.binOp .neq t x y t') (hx:ev E x=.bool c) (hy:ev E y=.bool d) (h1:P.underlying t=ZO .bool):RD P E F o (.bool (!(c==d))):=
 qB ho hx hy (cn rfl) (uW h1) rfl
theorem yL {p:Option Addr} {e':TypeId} (ho:o.op=.binOp .eql t x y t') (hx:ev E x=.pointer p) (hy:ev E y=.pointer ZR) (h1:P.underlying t=ZO (.pointer e')):RD P E F o (.bool p.isNone):=
 qA ho hx hy (cn rfl) (uX h1) rfl
theorem yM {p:Option Addr} {e':TypeId} (ho:o.op=.binOp .neq t x y t') (hx:ev E x=.pointer p) (hy:ev E y=.pointer ZR) (h1:P.underlying t=ZO (.pointer e')):RD P E F o (.bool (!p.isNone)):=
 qB ho hx hy (cn rfl) (uX h1) rfl
theorem s9 {m:Nat} {s:Sl} {e':TypeId} (h1:P.underlying t=ZO (.slice e')):rdo P (Op.equalIn (m+1) t s.v (.slice ZR 0 0)) F s.ZK.isNone:=by simp only [Op.equalIn,ak];refine ⟨_,(az h1 _).2 rfl,?_⟩;obtain ⟨b,l,c⟩:=s;cases b<;>rfl
theorem AX {s:Sl} {e':TypeId} (ho:o.op=.binOp .eql t x y t') (hx:ev E x=s.v) (hy:ev E y=.slice ZR 0 0) (h1:P.underlying t=ZO (.slice e')):RD P E F o (.bool s.ZK.isNone):=
 qA ho hx hy (cn rfl) (s9 h1) rfl
theorem AY {s:Sl} {e':TypeId} (ho:o.op=.binOp .neq t x y t') (hx:ev E x=s.v) (hy:ev E y=.slice ZR 0 0) (h1:P.underlying t=ZO (.slice e')):RD P E F o (.bool (!s.ZK.isNone)):=
 qB ho hx hy (cn rfl) (s9 h1) rfl
theorem PM {c d:ByteArray} (ho:o.op=.binOp .eql t x y t') (hx:ev E x=.string c) (hy:ev E y=.string d):RD P E F o (.bool (c.toList==d.toList)):=by simp [RD,execOp,ho,hx,hy,binOp,eqGuard,Op.stringOp]
theorem PN {c d:ByteArray} (ho:o.op=.binOp .neq t x y t') (hx:ev E x=.string c) (hy:ev E y=.string d):RD P E F o (.bool (!(c.toList==d.toList))):=by simp [RD,execOp,ho,hx,hy,binOp,eqGuard,Op.stringOp]
end
section
variable {x y:Operand} {t t':TypeId} {k:IntKind} {a b:Int}
theorem Lj {s:Sl} {e':TypeId} (ho:o.op=.call {callee:=.builtin .len,args:= #[x],argTypes:= #[t]}) (hx:ev E x=s.v) (h1:P.underlying t=ZO (.slice e')):RD P E F o (.int .i64 s.len):=by simp [RD,execOp,ho,resolve,invoke,builtin,hx,Sl.v,Builtin.len_,ak,az h1,goInt]
theorem Ll {s:Sl} {e':TypeId} (ho:o.op=.call {callee:=.builtin .cap,args:= #[x],argTypes:= #[t]}) (hx:ev E x=s.v) (h1:P.underlying t=ZO (.slice e')):RD P E F o (.int .i64 s.cap):=by simp [RD,execOp,ho,resolve,invoke,builtin,hx,Sl.v,Builtin.cap_,ak,az h1,goInt]
theorem H0 {s:ByteArray} (ho:o.op=.call {callee:=.builtin .len,args:= #[x],argTypes:= #[t]}) (hx:ev E x=.string s) (h1:P.underlying t=ZO .string):RD P E F o (.int .i64 s.size):=by simp [RD,execOp,ho,resolve,invoke,builtin,hx,Builtin.len_,ak,az h1,goInt]
theorem PO {ts:Array TypeId} (ho:o.op=.call {callee:=.builtin .max,args:= #[x,y],argTypes:=ts}) (hx:ev E x=.int k a) (hy:ev E y=.int k b):RD P E F o (.int k (max a b)):=by
 have:(if b>a then b else a)=max a b:=by omega
 simp [RD,execOp,ho,resolve,invoke,builtin,hx,hy,Builtin.max_,Builtin.max2];omega
theorem PP {ts:Array TypeId} (ho:o.op=.call {callee:=.builtin .min,args:= #[x,y],argTypes:=ts}) (hx:ev E x=.int k a) (hy:ev E y=.int k b):RD P E F o (.int k (min a b)):=by simp [RD,execOp,ho,resolve,invoke,builtin,hx,hy,Builtin.min_,Builtin.min2];omega
theorem PQ {ts:Array TypeId} {z:Operand} {c:Int} (ho:o.op=.call {callee:=.builtin .max,args:= #[x,y,z],argTypes:=ts}) (hx:ev E x=.int k a) (hy:ev E y=.int k b) (hz:ev E z=.int k c):RD P E F o (.int k (max (max a b) c)):=by simp [RD,execOp,ho,resolve,invoke,builtin,hx,hy,hz,Builtin.max_,Builtin.max2];omega
theorem PR {ts:Array TypeId} {z:Operand} {c:Int} (ho:o.op=.call {callee:=.builtin .min,args:= #[x,y,z],argTypes:=ts}) (hx:ev E x=.int k a) (hy:ev E y=.int k b) (hz:ev E z=.int k c):RD P E F o (.int k (min (min a b) c)):=by simp [RD,execOp,ho,resolve,invoke,builtin,hx,hy,hz,Builtin.min_,Builtin.min2];omega
end
def kY (d:TypeDesc):Bool:=match d with| .struct _| .array _ _=>ZT|_=>ZQ
theorem dP {t:Nat} {d:TypeDesc} (h:P.underlying t=ZO d) (v:Bool):rdo P (isAgg t) F v↔kY d=v:=by unfold isAgg;simp only [ak,az h,exists_eq_left'];cases d<;>simp [kY]
def PH.row (F:PH) (a:Addr) (cs:Array Value):Prop:=∀i,(h:i<cs.size)->F.cell (a.add i)=ZO cs[i]
theorem mQ {a:Addr}:∀(n i:Nat) (acc cs:Array Value),cs.size=i+n->acc.toList=cs.toList.take i->F.row a cs->rdo P (loadCellsFrom a i n acc) F cs:=by
 intro n;induction n with
 |zero=>intro i acc cs hs ha _;show acc=cs;apply Array.ext';rw [ha,XY];simp only [XU];omega
 |succ n ih=>
  intro i acc cs hs ha hr;have hi:i<cs.size:=by omega
  simp only [loadCellsFrom,ak];refine ⟨cs[i],⟨_,hr i hi,rfl⟩,?_⟩;refine ih (i+1) _ cs (by omega) ?_ hr;rw [Array.toList_push,ha,Ya (by simpa using hi)];simp
theorem fq {a:Addr} {cs:Array Value} (hr:F.row a cs):rdo P (loadCells a cs.size) F cs:=
 mQ cs.size 0 #[] cs (by omega) (by simp) hr
theorem Lm {x:Operand} {t:TypeId} {d:TypeDesc} {a:Addr} {v:Value} (ho:o.op=.load t x) (hx:ev E x=.pointer (ZO a)) (h1:P.underlying t=ZO d) (h2:kY d=ZQ) (hc:F.cell a=ZO v):
  RD P E F o v:=by
 simp [RD,execOp,ho,hx,Instr.loadAt,Instr.sureAddr,loadVar,ak,dP h1,h2,load,rdo,hc]
theorem Lu {x:Operand} {t:TypeId} {d:TypeDesc} {a:Addr} {cs:Array Value} {b:Nat} (ho:o.op=.load t x) (hx:ev E x=.pointer (ZO a)) (h1:P.underlying t=ZO d) (h2:kY d=ZT)
  (h3:tsz P t=ZO (cs.size,b)) (hr:F.row a cs):RD P E F o (.agg cs):=by
 have:=fq (P:=P) hr;simp [RD,execOp,ho,hx,Instr.loadAt,Instr.sureAddr,loadVar,ak,dP h1,h2,bE h3,this]
theorem ta {a:Addr} {f:Field} {s b:Nat} (h:tsz P f.type=ZO (s,b)) (hs:s≠0) (v:Addr):rdo P (fieldPlace a f) F v↔a.add f.offset=v:=by simp [fieldPlace,ak,bE h,hs]
theorem yN {x:Operand} {t i:Nat} {a:Addr} {fs:Array Field} {f:Field} {s b:Nat} (ho:o.op=.fieldAddr t x i) (hx:ev E x=.pointer (ZO a)) (h1:P.underlying t=ZO (.struct fs))
  (h2:fs[i]? =ZO f) (h3:tsz P f.type=ZO (s,b)) (hs:s≠0):RD P E F o (.pointer (ZO (a.add f.offset))):=by
 simp [RD,execOp,ho,hx,Instr.fieldAt,Instr.sureAddr,ak,az h1,h2,ta h3 hs]
theorem uY {t off:Nat} {d:TypeDesc} {cs:Array Value} {v:Value} (h1:P.underlying t=ZO d) (h2:kY d=ZQ) (hc:cs[off]? =ZO v):rdo P (part t cs off) F v:=by simp [part,ak,dP h1,h2,hc]
theorem EV {t off s b:Nat} {d:TypeDesc} {cs:Array Value} (h1:P.underlying t=ZO d) (h2:kY d=ZT) (h3:tsz P t=ZO (s,b)):rdo P (part t cs off) F (.agg (cs.extract off (off+s))):=by simp [part,ak,dP h1,h2,bE h3]
theorem Ia {x:Operand} {t i:Nat} {cs:Array Value} {fs:Array Field} {f:Field} {d:TypeDesc} {v:Value} (ho:o.op=.field t x i) (hx:ev E x=.agg cs) (h1:P.underlying t=ZO (.struct fs))
  (h2:fs[i]? =ZO f) (h3:P.underlying f.type=ZO d) (h4:kY d=ZQ) (hc:cs[f.offset]? =ZO v):RD P E F o v:=by
 simp only [RD,execOp,ho,hx,Instr.field,ak,az h1,asAgg,cM];exact ⟨v,⟨_,rfl,by simp only [h2,ak,cM,exists_eq_left'];exact uY h3 h4 hc⟩,rfl⟩
theorem Ib {x:Operand} {t i s b:Nat} {cs:Array Value} {fs:Array Field} {f:Field} {d:TypeDesc} (ho:o.op=.field t x i) (hx:ev E x=.agg cs) (h1:P.underlying t=ZO (.struct fs))
  (h2:fs[i]? =ZO f) (h3:P.underlying f.type=ZO d) (h4:kY d=ZT) (h5:tsz P f.type=ZO (s,b)):RD P E F o (.agg (cs.extract f.offset (f.offset+s))):=by
 simp only [RD,execOp,ho,hx,Instr.field,ak,az h1,asAgg,cM];exact ⟨_,⟨_,rfl,by simp only [h2,ak,cM,exists_eq_left'];exact EV h3 h4 h5⟩,rfl⟩
theorem tX {x y:Operand} {t e' s b:Nat} {ZK:Addr} {len cap:Nat} {k:IntKind} {i:Int} (ho:o.op=.indexAddr t x y) (hx:ev E x=.slice (ZO ZK) len cap) (hy:ev E y=.int k i)
  (h1:P.underlying t=ZO (.slice e')) (h2:tsz P e'=ZO (s,b)) (h3:0<=i) (h4:i<len):RD P E F o (.pointer (ZO (ZK.add (i.toNat*s)))):=by
 simp [RD,execOp,ho,hx,hy,Instr.indexAt,asIntOf,ak,az h1,h3,h4,bE h2]
theorem tY {x y:Operand} {t e' s b n:Nat} {ZK:Addr} {k:IntKind} {i:Int} (ho:o.op=.indexAddr t x y) (hx:ev E x=.pointer (ZO ZK)) (hy:ev E y=.int k i)
  (h1:P.underlying t=ZO (.array n e')) (h2:tsz P e'=ZO (s,b)) (h3:0<=i) (h4:i<n):RD P E F o (.pointer (ZO (ZK.add (i.toNat*s)))):=by
 simp [RD,execOp,ho,hx,hy,Instr.indexAt,asIntOf,ak,az h1,h3,h4,bE h2,Instr.sureAddr]
theorem AZ {x y:Operand} {t:Nat} {st:ByteArray} {k:IntKind} {i:Int} (ho:o.op=.index t x y) (hx:ev E x=.string st) (hy:ev E y=.int k i)
  (h1:P.underlying t=ZO .string) (h3:0<=i) (h4:i<st.size):RD P E F o (.int .u8 (st[i.toNat]'(by omega)).toNat):=by
 have h5:i.toNat<st.size:=by omega
 have:st[i.toNat]? =ZO (st[i.toNat]'h5):=getElem?_pos st i.toNat h5;simp [RD,execOp,ho,hx,hy,Instr.index,asIntOf,ak,az h1,h3,this]
theorem yO {x y:Operand} {t e' n s b:Nat} {cs:Array Value} {k:IntKind} {i:Int} {d:TypeDesc} {v:Value} (ho:o.op=.index t x y) (hx:ev E x=.agg cs) (hy:ev E y=.int k i)
  (h1:P.underlying t=ZO (.array n e')) (h2:tsz P e'=ZO (s,b)) (hd:P.underlying e'=ZO d) (hag:kY d=ZQ) (h3:0<=i) (h4:i<n) (hc:cs[i.toNat*s]? =ZO v):RD P E F o v:=by
 simp only [RD,execOp,ho,hx,hy,Instr.index,asIntOf,ak,az h1,cM];refine ⟨v,⟨(k,i),rfl,.array n e',rfl,?_⟩,rfl⟩;simp only [h3,h4,and_self,if_true,ak,bE h2];exact ⟨_,rfl,uY hd hag hc⟩
theorem cx {k:IntKind} {i:Int} {y:Nat} {c:BoundsCode} (h1:0<=i) (h2:i<=y) (v:Nat):rdo P (Instr.sliceBound (.int k i) y c) F v↔i.toNat=v:=by simp [Instr.sliceBound,asIntOf,h1,h2]
def dQ (v:Option Value) (dflt:Nat) (r:Nat):Prop:=(v=ZR/\r=dflt)\/∃k i,v=ZO (.int k i)/\0<=i/\i.toNat=r
theorem fe {sl:Bool} {len cap:Nat} {lo hi:Option Value} {l h:Nat} (hh:dQ hi len h) (hl:dQ lo 0 l) (h1:l<=h) (h2:h<=cap) (v:Nat×Nat×Nat):
  rdo P (Instr.sliceBounds sl len cap lo hi ZR) F v↔(l,h,cap)=v:=by
 rcases hh with ⟨rfl,rfl⟩|⟨k,i,rfl,hi0,rfl⟩<;>rcases hl with ⟨rfl,rfl⟩|⟨k',j,rfl,hj0,rfl⟩
 ·simp [Instr.sliceBounds]
 ·have e2:∀c x,rdo P (Instr.sliceBound (.int k' j) h c) F x↔j.toNat=x:=λc x=>cx hj0 (by omega) x;cases sl<;>simp [Instr.sliceBounds,e2]
 ·have e1:∀c x,rdo P (Instr.sliceBound (.int k i) cap c) F x↔i.toNat=x:=λc x=>cx hi0 (by omega) x;cases sl<;>simp [Instr.sliceBounds,e1]
 ·have e1:∀c x,rdo P (Instr.sliceBound (.int k i) cap c) F x↔i.toNat=x:=λc x=>cx hi0 (by omega) x;have e2:∀c x,rdo P (Instr.sliceBound (.int k' j) i.toNat c) F x↔j.toNat=x:=λc x=>cx hj0 (by omega) x;cases sl<;>simp [Instr.sliceBounds,ak,e1,e2]
theorem nZ {sl:Bool} {len cap:Nat} {lo:Option Value} {k k':IntKind} {i m:Int} {l:Nat} (hl:dQ lo 0 l) (h0:0<=i) (hm0:0<=m) (h1:l<=i.toNat) (h2:i<=m) (h3:m<=cap) (v:Nat×Nat×Nat):
  rdo P (Instr.sliceBounds sl len cap lo (ZO (.int k i)) (ZO (.int k' m))) F v↔(l,i.toNat,m.toNat)=v:=by
 have e1:∀c x,rdo P (Instr.sliceBound (.int k' m) cap c) F x↔m.toNat=x:=λc x=>cx hm0 h3 x;have e2:∀c x,rdo P (Instr.sliceBound (.int k i) m.toNat c) F x↔i.toNat=x:=λc x=>cx h0 (by omega) x;rcases hl with ⟨rfl,rfl⟩|⟨k'',j,rfl,hj0,rfl⟩
 ·cases sl<;>simp [Instr.sliceBounds,ak,e1,e2]
 ·have e3:∀c x,rdo P (Instr.sliceBound (.int k'' j) i.toNat c) F x↔j.toNat=x:=λc x=>cx hj0 (by omega) x;cases sl<;>simp [Instr.sliceBounds,ak,e1,e2,e3]
def Sl.cut (s:Sl) (size l h m:Nat):Sl:=⟨if m=l then s.ZK else s.ZK.map (·.add (l*size)),h - l,m - l⟩
theorem EW {x:Operand} {lo hi:Option Operand} {t e' size b:Nat} {s:Sl} {l h:Nat} (ho:o.op=.slice t x lo hi ZR) (hx:ev E x=s.v) (h1:P.underlying t=ZO (.slice e')) (h2:tsz P e'=ZO (size,b))
  (hl:dQ (lo.map (ev E)) 0 l) (hh:dQ (hi.map (ev E)) s.len h) (h3:l<=h) (h4:h<=s.cap):RD P E F o (s.cut size l h s.cap).v:=by
 have:=fe (P:=P) (F:=F) (sl:=ZT) hh hl h3 h4;simp [RD,execOp,ho,hx,Instr.sliceAt,Instr.slice,Sl.v,Sl.cut,ak,az h1,bE h2,this]
theorem A0 {x hi mx:Operand} {lo:Option Operand} {t e' size b:Nat} {s:Sl} {l:Nat} {k k':IntKind} {i m:Int} (ho:o.op=.slice t x lo (ZO hi) (ZO mx)) (hx:ev E x=s.v) (h1:P.underlying t=ZO (.slice e')) (h2:tsz P e'=ZO (size,b))
  (hl:dQ (lo.map (ev E)) 0 l) (hi':ev E hi=.int k i) (hm:ev E mx=.int k' m) (h0:0<=i) (hm0:0<=m) (h3:l<=i.toNat) (h4:i<=m) (h5:m<=s.cap):RD P E F o (s.cut size l i.toNat m.toNat).v:=by
 have:=nZ (P:=P) (F:=F) (sl:=ZT) (len:=s.len) (k:=k) (k':=k') hl h0 hm0 h3 h4 h5;simp [RD,execOp,ho,hx,Instr.sliceAt,Instr.slice,Sl.v,Sl.cut,ak,az h1,bE h2,hi',hm,this]
theorem uZ {x:Operand} {lo hi:Option Operand} {t e' size b n:Nat} {a:Addr} {l h:Nat} (ho:o.op=.slice t x lo hi ZR) (hx:ev E x=.pointer (ZO a)) (h1:P.underlying t=ZO (.array n e')) (h2:tsz P e'=ZO (size,b))
  (hl:dQ (lo.map (ev E)) 0 l) (hh:dQ (hi.map (ev E)) n h) (h3:l<=h) (h4:h<=n):RD P E F o (Sl.cut ⟨ZO a,n,n⟩ size l h n).v:=by
 have:=fe (P:=P) (F:=F) (sl:=ZQ) hh hl h3 h4;simp [RD,execOp,ho,hx,Instr.sliceAt,Instr.sureAddr,Sl.v,Sl.cut,ak,az h1,bE h2,this];split<;>rfl
theorem A1 {x:Operand} {lo hi:Option Operand} {t:Nat} {s:ByteArray} {l h:Nat} (ho:o.op=.slice t x lo hi ZR) (hx:ev E x=.string s) (h1:P.underlying t=ZO .string)
  (hl:dQ (lo.map (ev E)) 0 l) (hh:dQ (hi.map (ev E)) s.size h) (h3:l<=h) (h4:h<=s.size):RD P E F o (.string (s.extract l h)):=by
 have:=fe (P:=P) (F:=F) (sl:=ZQ) hh hl h3 h4;simp [RD,execOp,ho,hx,Instr.sliceAt,Instr.slice,ak,az h1,this]
end
section
variable {P:Program} {F:PH} {E:En} {o:Oper} {K:En->PH->Prop}
def mR (P:Program) (fs:Array Field):Array (Nat×Nat):=fs.map λf=>(f.offset,P.cellsOf f.type)
def jI (P:Program) (fs:Array Field):Bool:=fs.all λf=>(P.info? f.type).isSome
theorem yP {t:Nat} (h:(P.info? t).isSome=ZT):rdo P (sizeOf t) F (P.cellsOf t):=by
 cases hi:P.info? t with
 |none=>simp [hi] at h
 |some i=>
  have:tsz P t=ZO (i.size,i.bytes):=by simp [tsz,hi]
  rw [bE this];simp [Program.cellsOf,hi]
theorem kL {α β:Type} (f:α->Sem β) (g:α->β):∀(l:List α),(∀x∈l,rdo P (f x) F (g x))->rdo P (l.mapM f) F (l.map g)
 |[],_=>by simp
 |x::l,h=>by have h1:=h x (YU ..);have h2:=kL f g l λy hy=>h y (X8 _ hy);simp only [List.mapM_cons,ak,Yf];exact ⟨_,h1,_,h2,rfl⟩
theorem A2 {fs:Array Field} (h:jI P fs=ZT):rdo P (fs.mapM λf=>do pure (f.offset,<- sizeOf f.type)) F (mR P fs):=by
 have hall:∀f∈fs.toList,(P.info? f.type).isSome=ZT:=by intro f hf;have:=Array.all_eq_true_iff_forall_mem.1 h f (by simpa using hf);exact this
 rw [Array.mapM_eq_mapM_toList];have:=kL (P:=P) (F:=F) (λf:Field=>(do pure (f.offset,<- sizeOf f.type):Sem (Nat×Nat))) (λf=>(f.offset,P.cellsOf f.type)) fs.toList
  (λf hf=>by simp only [ak];exact ⟨_,yP (hall f hf),rfl⟩)
 refine (Lh _ _ _ _).2 ⟨_,this,?_⟩;apply Array.ext';simp [mR]
theorem tZ {t:Nat} {parts:Array (Nat×Operand)} {fs:Array Field} {z:Value} {vs:List (Nat×Value)} {cells:Array Value} (ho:o.op=.build t parts) (h1:P.underlying t=ZO (.struct fs)) (hz:bP P t=ZO z)
  (hk:jI P fs=ZT) (hv:(parts.map λ(i,x)=>(i,ev E x)).toList=vs) (hf:Instr.fill (λi=>(mR P fs)[i]?) z.cells vs=ZO cells):RD P E F o (.agg cells):=by
 simp only [RD,execOp,ho,ak,Instr.build,cM];refine ⟨_,⟨_,(gR hz _).2 rfl,_,(az h1 _).2 rfl,?_⟩,rfl⟩;simp only [ak];refine ⟨_,by have:=A2 (P:=P) (F:=F) hk;simpa [ak] using this,?_⟩;rw [hv,hf];rfl
theorem wY {t n e' s b:Nat} {parts:Array (Nat×Operand)} {z:Value} {vs:List (Nat×Value)} {cells:Array Value} (ho:o.op=.build t parts) (h1:P.underlying t=ZO (.array n e')) (hz:bP P t=ZO z)
  (h2:tsz P e'=ZO (s,b)) (hv:(parts.map λ(i,x)=>(i,ev E x)).toList=vs) (hf:Instr.fill (λi=>ZO (i*s,s)) z.cells vs=ZO cells):RD P E F o (.agg cells):=by
 simp only [RD,execOp,ho,ak,Instr.build,cM];refine ⟨_,⟨_,(gR hz _).2 rfl,_,(az h1 _).2 rfl,?_⟩,rfl⟩;simp only [ak,bE h2,exists_eq_left'];rw [hv,hf];rfl
theorem Lw {t:Nat} {z:Value} (ho:o.op=.alloc t) (hz:bP P t=ZO z) (h:∀b,F b=ZR->K (cZ E o.dst (.pointer (ZO ⟨b,0,ZR⟩))) (F.set b (ZP z.cells t))):
  aH P (execOp (ev E) o) F (bM P K o E):=by
 simp only [execOp,ho,Instr.alloc,aD,eR hz,aL,bM,newVar,newRow,newObj];exact h
theorem Ic {t:Nat} {x:Operand} {v:Value} (ho:o.op=.box t x) (hx:ev E x=v) (h:∀b,F b=ZR->K (cZ E o.dst (.pointer (ZO ⟨b,0,ZR⟩))) (F.set b (ZP v.cells t))):
  aH P (execOp (ev E) o) F (bM P K o E):=by
 simp only [execOp,ho,Instr.box,aD,aL,bM,newVar,newRow,newObj,hx];exact h
theorem iR {t e' s b n:Nat} {parts:Array (Nat×Operand)} {z:Value} {vs:List (Nat×Value)} {cells:Array Value} (ho:o.op=.buildSlice t n parts) (h1:P.underlying t=ZO (.slice e')) (h2:tsz P e'=ZO (s,b))
  (hn:n*s<=16777216) (hz:bP P e'=ZO z) (hv:(parts.map λ(i,x)=>(i,ev E x)).toList=vs) (hf:Instr.fill (λi=>ZO (i*s,s)) (Builtin.zeroCells z.cells n) vs=ZO cells) (hs:n*s=n*z.cells.size)
  (h:∀b,F b=ZR->K (cZ E o.dst (.slice (ZO ⟨b,0,ZR⟩) n n)) (F.set b (ZP cells e'))):
  aH P (execOp (ev E) o) F (bM P K o E):=by
 simp only [execOp,ho,Instr.buildSlice,aD,ca h1,fE h2];rw [Υ (by omega)];by_cases h0:n*s=0
 ·have hzz:(Array.range (n*s)).map (λi=>(#[]:Array Value)[i % (#[]:Array Value).size]!)=Builtin.zeroCells z.cells n:=by simp [Builtin.zeroCells,h0,<- hs]
  rw [Χ h0];simp only [aD,aL];rw [hzz,hv,hf];simp only [aD,aL,newRow,newObj,bM];exact h
 ·have hzz:(Array.range (n*s)).map (λi=>z.cells[i % z.cells.size]!)=Builtin.zeroCells z.cells n:=by simp [Builtin.zeroCells,hs]
  rw [Υ h0];simp only [aD,eR hz,aL];rw [hzz,hv,hf];simp only [aD,aL,newRow,newObj,bM];exact h
def wr (c:Array Value) (off:Nat):List Value->Array Value
 |[]=>c
 |v::vs=>wr (c.setIfInBounds off v) (off+1) vs
theorem ee (vs:List Value):∀(c:Array Value) (off:Nat),(wr c off vs).size=c.size:=by
 induction vs with
 |nil=>intro c off;rfl
 |cons v vs ih=>intro c off;simp [wr,ih]
theorem wZ (vs:List Value):∀(c:Array Value) (off i:Nat),off+vs.length<=c.size->(wr c off vs)[i]? =if off<=i/\i<off+vs.length then vs[i - off]? else c[i]? :=by
 induction vs with
 |nil=>intro c off i _;simp [wr];omega
 |cons v vs ih=>
  intro c off i h;simp only [X4] at h;rw [wr,ih _ _ _ (by simp;omega),Array.getElem?_setIfInBounds];by_cases h1:off=i
  ·subst h1;rw [Υ (by omega),Χ rfl,Χ (by omega),Χ (by simp)];simp
  ·by_cases h2:off+1<=i/\i<off+1+vs.length
   ·rw [Χ h2,Χ (by simp;omega)];rw [show i - off=(i - (off+1))+1 by omega,Yl]
   ·rw [Υ h2,Υ h1,Υ (by simp;omega)]
theorem set_set (F:PH) (b:Nat) (o o':Obj):(F.set b o).set b o'=F.set b o':=by funext x;unfold PH.set;split<;>rfl
theorem Ly (F:PH) (b:Nat) (o:Obj):(F.set b o) b=ZO o:=by simp [PH.set]
theorem A3 (F:PH) {b x:Nat} (o:Obj) (h:x≠b):(F.set b o) x=F x:=by simp [PH.set,h]
theorem fM {e':TypeId}:∀(vs:List Value) (i:Nat) (F:PH) (a:Addr) (c:Array Value) (Q:Unit->PH->Prop),a.spot=ZR->F a.block=ZO (ZP c e' (0,0))->a.off+i+vs.length<=c.size->
  (∀v∈vs,am v)->vs≠[]->Q () (F.set a.block (ZP (wr c (a.off+i) vs) e'))->aH P (storeCells a vs i) F Q:=by
 intro vs;induction vs with
 |nil=>intro i F a c Q _ _ _ _ h;exact absurd rfl h
 |cons v vs ih=>
  intro i F a c Q hsp hb hl hst _ hq;simp only [X4] at hl;have hoff:(a.add i).off=a.off+i:=by unfold ZW;split<;>simp_all
  have hblk:(a.add i).block=a.block:=by unfold ZW;split<;>rfl
  have hspo:(a.add i).spot=ZR:=by unfold ZW;split<;>simp_all
  simp only [storeCells,aD,store,aH];refine ⟨hst v (YU ..),c,e',(0,0),by rw [hblk];exact hb,hspo,by rw [hoff];omega,by simp [frz],?_⟩;rw [hblk,hoff];cases vs with
  |nil=>exact hq
  |cons u us=>refine ih (i+1) _ a (c.setIfInBounds (a.off+i) v) Q hsp (Ly _ _ _) (by simp;simp at hl;omega) (λx hx=>hst x (X8 _ hx)) (by simp) ?_;rw [set_set];exact hq
theorem Id {t:Nat} {x y:Operand} {a:Addr} {v:Value} {c:Array Value} {e' s b:Nat} (ho:o.op=.store t x y) (hx:ev E x=.pointer (ZO a)) (hy:ev E y=v) (hsz:tsz P t=ZO (s,b)) (h1:v.cells= #[v]) (hs:s=1) (hst:am v)
  (hsp:a.spot=ZR) (hb:F a.block=ZO (ZP c e' (0,0))) (hl:a.off<c.size) (h:K (cZ E o.dst undef) (F.set a.block (ZP (c.setIfInBounds a.off v) e'))):
  aH P (execOp (ev E) o) F (bM P K o E):=by
 subst hs;simp only [execOp,ho,hx,hy,Instr.storeAt,Instr.sureAddr,aD,aL,storeVar,fE hsz,h1];simp only [Zt,X4,List.length_nil,ne_eq,X5,not_true_eq_false,if_false];refine fM [v] 0 F a c _ hsp hb (by simp;omega) (by simpa using hst) (by simp) ?_;exact h
theorem Ie {t:Nat} {x y:Operand} {a:Addr} {vs c:Array Value} {e' s b:Nat} (ho:o.op=.store t x y) (hx:ev E x=.pointer (ZO a)) (hy:ev E y=.agg vs) (hsz:tsz P t=ZO (s,b)) (hs:vs.size=s) (hst:∀v∈vs.toList,am v)
  (h0:vs.toList≠[]) (hsp:a.spot=ZR) (hb:F a.block=ZO (ZP c e' (0,0))) (hl:a.off+s<=c.size) (h:K (cZ E o.dst undef) (F.set a.block (ZP (wr c a.off vs.toList) e'))):
  aH P (execOp (ev E) o) F (bM P K o E):=by
 subst hs;simp only [execOp,ho,hx,hy,Instr.storeAt,Instr.sureAddr,aD,aL,storeVar,fE hsz,Value.cells];simp only [ne_eq,not_true_eq_false,if_false];exact fM vs.toList 0 F a c _ hsp hb (by simpa using hl) hst h0 h
def aE (P:Program) (f:FuncId):Bool:=match P.funcs[f]? with|some fn=> !(fn.name== "runtime.NumGoroutine") && fn.body.isSome|none=>ZQ
theorem kM {f:FuncId} {args:Array Value} {Q:Next->PH->Prop} (hc:aE P f=ZT) (h:Q (.enter f args) F):aH P (callFunc f args) F Q:=by
 unfold aE at hc;cases hf:P.funcs[f]? with
 |none=>simp [hf] at hc
 |some fn=>
  simp only [hf,Yt,YZ] at hc;simp only [callFunc,aD,program,aH,hf,hc.1];have:fn.body.isNone=ZQ:=by cases hb:fn.body<;>simp_all
  simp only [this,Yn,if_false,aL];exact h
theorem PS {f:FuncId} {args:Array Operand} {ts:Array TypeId} {vs:Array Value} (ho:o.op=.call {callee:=.value (.func f),args:=args,argTypes:=ts}) (hc:aE P f=ZT) (hv:args.map (ev E)=vs)
  (h:aj P f vs F λv F'=>K (cZ E o.dst v) F'):aH P (execOp (ev E) o) F (bM P K o E):=by
 simp only [execOp,ho,resolve,ev,Deferred.ofValue,aD,aL,invoke];refine kM hc ?_;rw [show args.map (λx=>ev E x)=vs from hv];simpa [bM] using h
theorem DD {f:FuncId} {g:Operand} {args:Array Operand} {ts:Array TypeId} {vs first captured:Array Value} (ho:o.op=.call {callee:=.value g,args:=args,argTypes:=ts}) (hg:ev E g=.func (.func f) first captured) (hc:aE P f=ZT) (hv:args.map (ev E)=vs)
  (h:aj P f (first++vs++captured) F λv F'=>K (cZ E o.dst v) F'):aH P (execOp (ev E) o) F (bM P K o E):=by
 simp only [execOp,ho,resolve,hg,Deferred.ofValue,aD,aL,invoke];refine kM hc ?_;rw [show args.map (λx=>ev E x)=vs from hv];exact h
theorem Lz {f:FuncId} {g:Operand} {args:Array Operand} {ts:Array TypeId} {vs first captured:Array Value} (ho:o.op=.defer {callee:=.value g,args:=args,argTypes:=ts}) (hg:ev E g=.func (.func f) first captured) (hv:args.map (ev E)=vs)
  (hi:AQ P ⟨.fn (.func f) captured,first++vs⟩) (h:K (cZ E o.dst undef) F):aH P (execOp (ev E) o) F (bM P K o E):=by
 simp only [execOp,ho,resolve,hg,Deferred.ofValue,aD,aL];rw [show args.map (λx=>ev E x)=vs from hv];exact ⟨hi,h⟩
theorem If {x y:Operand} {ts:Array TypeId} {s u:Value} (ho:o.op=.call {callee:=.builtin .append,args:= #[x,y],argTypes:=ts}) (hx:ev E x=s) (hy:ev E y=u)
  (h:aH P (Builtin.append_ ts o.type #[s,u]) F λv F'=>K (cZ E o.dst v) F'):aH P (execOp (ev E) o) F (bM P K o E):=by
 simp [execOp,ho,resolve,hx,hy,invoke,builtin,bM];exact h
theorem PT {x y:Operand} {ts:Array TypeId} {s u:Value} (ho:o.op=.call {callee:=.builtin .copy,args:= #[x,y],argTypes:=ts}) (hx:ev E x=s) (hy:ev E y=u)
  (h:aH P (Builtin.copy_ ts o.type #[s,u]) F λv F'=>K (cZ E o.dst v) F'):aH P (execOp (ev E) o) F (bM P K o E):=by
 simp [execOp,ho,resolve,hx,hy,invoke,builtin,bM];exact h
theorem yQ {t:TypeId} {x y:Operand} {u v:Value} (ho:o.op=.makeSlice t x y) (hx:ev E x=u) (hy:ev E y=v)
  (h:aH P (Instr.makeSlice t u v) F λv F'=>K (cZ E o.dst v) F'):aH P (execOp (ev E) o) F (bM P K o E):=by
 simp [execOp,ho,hx,hy,bM];exact h
theorem A4 {t:TypeId} (ho:o.op=.makeMap t ZR) (h:∀b,F b=ZR->K (cZ E o.dst (.map (ZO b))) (F.set b (.map #[] 0))):
  aH P (execOp (ev E) o) F (bM P K o E):=by
 simp only [execOp,ho,Instr.makeMap,Option.map_none,newObj,aD,aL,aH,bM];exact h
theorem oS {t:TypeId} {x y z:Operand} {u v q:Value} (ho:o.op=.mapUpdate t x y z) (hx:ev E x=u) (hy:ev E y=v) (hz:ev E z=q)
  (h:aH P (Instr.mapUpdate t u v q) F λ_ F'=>K (cZ E o.dst undef) F'):aH P (execOp (ev E) o) F (bM P K o E):=by
 simp only [execOp,ho,hx,hy,hz,aD,aL,bM];exact h
theorem yR {t:TypeId} {x y:Operand} {u v r:Value} {ok:Bool} (ho:o.op=.lookup t x y ok) (hx:ev E x=u) (hy:ev E y=v) (h:rdo P (Instr.lookup t u v ok) F r):RD P E F o r:=by simp only [RD,execOp,ho,hx,hy,ak,cM];exact ⟨r,h,rfl⟩
end
def atF (F:PH) (K:PH->Prop):Prop:=K F
theorem atE {F:PH} {K:PH->Prop} (h:atF F K):K F:=h
theorem atI {F:PH} {K:PH->Prop} (h:K F):atF F K:=h
section
variable {P:Program} {n:Nat} {Q:Exit->En->PH->Prop} {E:En} {F:PH} {ops:Array Oper} {l:List Oper} {d:Tmp} {op:Op} {ty:TypeId} {pos:String} {aft:Array Edge} {v:Value} {gd:Option (Nat×Bool)}
theorem yS {t:Nat} (h:E t=v):upd E t v=E:=by
 funext x;unfold upd;by_cases hx:x=t
 ·subst hx;have:Nat.beq x x=ZT:=by simp
  rw [this];exact h.symm
 ·rw [kX hx];rfl
theorem Ig {c:Operand} {x y:Code} (hc:ev E c=.bool ZT) (h:HC P n x Q E F):HC P n (.cond c x y) Q E F:=qy hc (λ_=>h) (λh=>by cases h)
theorem Ih {c:Operand} {x y:Code} (hc:ev E c=.bool ZQ) (h:HC P n y Q E F):HC P n (.cond c x y) Q E F:=qy hc (λh=>by cases h) (λ_=>h)
section
variable {K:En->PH->Prop}
theorem On {place:Nat->Option (Nat×Nat)} {cells r:Array Value} {i off:Nat} {v:Value} {rest:List (Nat×Value)} (hp:place i=ZO (off,1)) (hv:v.cells= #[v]) (ho:Nat.blt off cells.size=ZT)
  (h:Instr.fill place (cells.setIfInBounds off v) rest=ZO r):Instr.fill place cells ((i,v)::rest)=ZO r:=by
 have ho':off<cells.size:=Zp ho;simp only [Instr.fill,hp,hv];simp only [Zt,X4,List.length_nil];rw [Υ (by simp;omega)];simpa using h
theorem Ii (vs:List Value):∀(c:Array Value) (off k:Nat),(vs.zipIdx k).foldl (λcs (x:Value×Nat)=>cs.setIfInBounds (off+x.2) x.1) c=wr c (off+k) vs:=by
 induction vs with
 |nil=>intro c off k;rfl
 |cons v vs ih=>intro c off k;simp only [List.zipIdx_cons,List.foldl_cons,wr];rw [ih];rfl
theorem Oo {place:Nat->Option (Nat×Nat)} {cells cs r:Array Value} {i off s:Nat} {rest:List (Nat×Value)} (hp:place i=ZO (off,s)) (hs:cs.size=s) (ho:Nat.ble (off+s) cells.size=ZT)
  (h:Instr.fill place (wr cells off cs.toList) rest=ZO r):Instr.fill place cells ((i,.agg cs)::rest)=ZO r:=by
 have ho':off+s<=cells.size:=Zp ho;subst hs;have e:cs.zipIdx.foldl (λcs (x:Value×Nat)=>cs.setIfInBounds (off+x.2) x.1) cells=wr cells off cs.toList:=by have:=Ii cs.toList cells off 0;rw [<- Array.foldl_toList];simpa using this
 unfold Instr.fill;rw [hp];show (if (decide (cs.size≠cs.size) || decide (off+cs.size>cells.size))=ZT then ZR else Instr.fill place (cs.zipIdx.foldl (λcs (x:Value×Nat)=>cs.setIfInBounds (off+x.2) x.1) cells) rest)=ZO r;rw [e,Υ (by simp;omega)];exact h
theorem qC (z:Array Value) (hz:Nat.blt 0 z.size=ZT):∀n,Builtin.zeroCells z n=((List.replicate n z.toList).flatten).toArray:=by
 have hz':0<z.size:=Zp hz;intro n;apply Array.ext';apply List.ext_getElem
 ·simp [Builtin.zeroCells,List.length_flatten]
 ·intro i h1 h2;simp only [Builtin.zeroCells,Array.toList_map,Array.toList_range,List.getElem_map,List.getElem_range];have key:∀n i (h:i<((List.replicate n z.toList).flatten).length),((List.replicate n z.toList).flatten)[i]=z[i % z.size]! :=by
   intro n;induction n with
   |zero=>intro i h;simp at h
   |succ n ih=>
    intro i h;have e:(List.replicate (n+1) z.toList).flatten=z.toList++(List.replicate n z.toList).flatten:=by simp [List.replicate_succ]
    by_cases hi:i<z.size
    ·have:((List.replicate (n+1) z.toList).flatten)[i]=z.toList[i]'(by simpa using hi):=by simp only [e];rw [List.getElem_append_left]
     rw [this,Nat.mod_eq_of_lt hi];simp [hi]
    ·have hl:i - z.size<((List.replicate n z.toList).flatten).length:=by simp [List.length_flatten,Zu] at h ⊢;omega
     have:((List.replicate (n+1) z.toList).flatten)[i]=((List.replicate n z.toList).flatten)[i - z.size]:=by simp only [e];rw [List.getElem_append_right (by simpa using hi)];simp
     have hm:i % z.size=(i - z.size) % z.size:=Nat.mod_eq_sub_mod (by omega);rw [this,ih _ hl,hm]
  exact (key n i (by simpa using h2)).symm
theorem EX {z:Value} {cs:Array Value} {s:Nat} (hs:cs.size=s) (hz:z.cells.size=s) (h0:Nat.blt 0 s=ZT):Instr.fill (λi=>ZO (i*s,s)) (Builtin.zeroCells z.cells 1) [(0,.agg cs)]=ZO cs:=by
 have h1:Nat.blt 0 z.cells.size=ZT:=by rw [hz];exact h0
 rw [qC _ h1];have e:((List.replicate 1 z.cells.toList).flatten).toArray=z.cells:=by simp
 rw [e];refine Oo (off:=0*s) rfl hs (by rw [hz];simp) ?_;have hw:wr z.cells 0 cs.toList=cs:=by
  apply Array.ext
  ·rw [ee,hz,hs]
  ·intro i h1 h2;have:=wZ cs.toList z.cells 0 i (by simp [hz,hs]);rw [Χ (by simp;omega)] at this;simp only [Y9] at this;rw [Yc h1] at this;simp at this;rw [Yc h2] at this;exact Yh this
 rw [show 0*s=0 by omega,hw];rfl
def LA:List Value->Prop
 |[]=>True
 |v::l=>v.cells= #[v]/\LA l
def DE (k:Nat):List Value->List (Nat×Value)
 |[]=>[]
 |v::l=>(k,v)::DE (k+1) l
theorem EY:∀(l:List Value) (k:Nat) (cells:Array Value),LA l->k+l.length<=cells.size->Instr.fill (λi=>ZO (i*1,1)) cells (DE k l)=ZO (wr cells k l):=by
 intro l;induction l with
 |nil=>intro k cells _ _;rfl
 |cons v l ih=>intro k cells ho hl;simp only [X4] at hl;refine On (off:=k) (by simp) ho.1 (Nat.ble_eq_true_of_le (by omega)) ?_;exact ih (k+1) _ ho.2 (by simp;omega)
theorem LB {z:Value} {l:List Value} {m:Nat} {cells0:Array Value} (hm:l.length=m) (h0:Builtin.zeroCells z.cells m=cells0) (hz:z.cells.size=1) (ho:LA l):Instr.fill (λi=>ZO (i*1,1)) cells0 (DE 0 l)=ZO l.toArray:=by
 subst hm;subst h0;have hs:(Builtin.zeroCells z.cells l.length).size=l.length:=by simp [Builtin.zeroCells,hz]
 rw [EY l 0 _ ho (by rw [hs];omega)];congr 1;apply Array.ext
 ·rw [ee,hs];simp
 ·intro i h1 h2;have:=wZ l (Builtin.zeroCells z.cells l.length) 0 i (by rw [hs];omega);rw [Χ (by simp at h2;omega)] at this;simp only [Y9] at this;rw [Yc h1] at this;simp at h2;rw [N6 h2] at this;simpa using Yh this
end
theorem Oq {x:Operand} {k:IntKind} {i:Int} {m:Nat} (hx:ev E x=.int k i) (h:0<=i):dQ (Option.map (ev E) (ZO x)) m i.toNat:=.inr ⟨k,i,by simp [hx],h,rfl⟩
theorem w9 {m:Nat}:dQ ZR m m:=.inl ⟨rfl,rfl⟩
theorem Ot:gm [] F:=λ_ h=>by cases h
theorem Ou {i:Nat} {S:World->Prop} {Sp:cw} (h:AU F S) (hh:gm Sp F):gm ((i,S)::Sp) F:=λr hr=>by
 rcases XP.1 hr with rfl|hr
 ·exact h
 ·exact hh r hr
theorem Ow {tmps:Array Value} {t:Nat} {v u:Value} (h:Array.getD tmps t undef=v) (hv:v=u):tmps[t]?.getD undef=u:=by rw [<- YX,h,hv]
theorem Ij {t s:Nat} {dd:TypeDesc} {a:Addr} {cs:Array Value} {b:Nat} {e:Ev} {w:World} (st:Sat e w F) (h1:P.underlying t=ZO dd) (h2:kY dd=ZT) (h3:tsz P t=ZO (s,b)) (hs:cs.size=s) (hr:F.row a cs):
  (loadVar t a).run P w=.ok (.agg cs) w:=by
 subst hs;refine qz _ F w _ ?_ st;simp [loadVar,ak,dP h1,h2,bE h3,fq hr]
theorem EZ {t:TypeId} {dd:TypeDesc} {a:Addr} {e:Ev} {w:World} (st:Sat e w F) (h1:P.underlying t=ZO dd) (h2:kY dd=ZQ) (hr:F.cell a=ZO v):
  (loadVar t a).run P w=.ok v w:=by
 refine qz _ F w _ ?_ st;simp [loadVar,ak,dP h1,h2,load,rdo,hr]
def kZ (P:Program) (E:En) (F:PH):ResultVar->Value->Prop
 | .tmp t,v=>E t=v
 | .cell x t,v=>∃a,E x=.pointer (ZO a)/\∀e w,Sat e w F->(loadVar t a).run P w=.ok v w
theorem xa {t:Tmp} {v:Value} (hv:E t=v):kZ P E F (.tmp t) v:=hv
theorem Ik {x:Tmp} {t s:Nat} {dd:TypeDesc} {a:Addr} {cs:Array Value} {b:Nat} (hx:E x=.pointer (ZO a)) (h1:P.underlying t=ZO dd) (h2:kY dd=ZT) (h3:tsz P t=ZO (s,b)) (hs:cs.size=s) (hr:F.row a cs):
  kZ P E F (.cell x t) (.agg cs):=⟨a,hx,λ_ _ st=>Ij st h1 h2 h3 hs hr⟩
theorem Il {x:Tmp} {t:Nat} {dd:TypeDesc} {a:Addr} {v:Value} (hx:E x=.pointer (ZO a)) (h1:P.underlying t=ZO dd) (h2:kY dd=ZQ) (hr:F.cell a=ZO v):
  kZ P E F (.cell x t) v:=⟨a,hx,λ_ _ st=>EZ st h1 h2 hr⟩
theorem gS {r:ResultVar} {v:Value} (h:kZ P E F r v) {e:Ev} {w:World} {tmps:Array Value} (st:Sat e w F) (ht:∀t:Nat,Array.getD tmps t undef=E t):
  (∃t,r=.tmp t/\tmps[t]?.getD undef=v)\/∃x t a,r=.cell x t/\tmps[x]?.getD undef=.pointer (ZO a)/\(loadVar t a).run P w=.ok v w:=by
 cases r with
 |tmp t=>exact .inl ⟨t,rfl,Ow (ht t) h⟩
 |cell x t=>obtain ⟨a,h1,h2⟩:=h;exact .inr ⟨x,t,a,rfl,Ow (ht x) h1,h2 e w st⟩
theorem Xh {fn:Func} (h:fn.results= #[]):sW P fn E F (.tuple #[]):=λe w tmps _ _=>by simp [results,h]
theorem UY {fn:Func} {r:ResultVar} {v:Value} (h:fn.results= #[r]) (hv:kZ P E F r v):sW P fn E F v:=λe w tmps st ht=>by have k:=gS hv st ht;clear ht hv;rcases k with ⟨t,rfl,h1⟩|⟨x,t,a,rfl,h1,h2⟩<;>simp [results,asAddr, *]
theorem UZ {fn:Func} {r r':ResultVar} {v v':Value} (h:fn.results= #[r,r']) (hv:kZ P E F r v) (hv':kZ P E F r' v'):sW P fn E F (.tuple #[v,v']):=λe w tmps st ht=>by have k:=gS hv st ht;have k':=gS hv' st ht;clear ht hv hv';rcases k with ⟨t,rfl,h1⟩|⟨x,t,a,rfl,h1,h2⟩<;>rcases k' with ⟨t',rfl,h3⟩|⟨x',t',a',rfl,h3,h4⟩<;>simp [results,asAddr, *]
theorem Xi {fn:Func} {r r' r'':ResultVar} {v v' v'':Value} (h:fn.results= #[r,r',r'']) (hv:kZ P E F r v) (hv':kZ P E F r' v') (hv'':kZ P E F r'' v''):sW P fn E F (.tuple #[v,v',v'']):=λe w tmps st ht=>by have k:=gS hv st ht;have k':=gS hv' st ht;have k'':=gS hv'' st ht;clear ht hv hv' hv'';rcases k with ⟨t,rfl,h1⟩|⟨x,t,a,rfl,h1,h2⟩<;>rcases k' with ⟨t',rfl,h3⟩|⟨x',t',a',rfl,h3,h4⟩<;>rcases k'' with ⟨t'',rfl,h5⟩|⟨x'',t'',a'',rfl,h5,h6⟩<;>simp [results,asAddr, *]
theorem rt1 (fn:Func) (R:Value->PH->Prop) {t:Tmp} {v:Value} (h1:fn.results= #[.tmp t]) (h2:E t=v) (h:R v F):K9 P fn R .ret E F:=⟨v,UY h1 (xa h2),h⟩
theorem rt2 (fn:Func) (R:Value->PH->Prop) {t t':Tmp} {v v':Value} (h1:fn.results= #[.tmp t,.tmp t']) (h2:E t=v) (h3:E t'=v') (h:R (.tuple #[v,v']) F):K9 P fn R .ret E F:=⟨_,UZ h1 (xa h2) (xa h3),h⟩
theorem jJ {k:IntKind} {x:Int}:am (.int k x):=⟨(λ_ h=>by cases h),(λ_ h=>by cases h)⟩
theorem Im {x:Sl}:am x.v:=⟨(λ_ h=>by cases h),(λ_ h=>by cases h)⟩
end
theorem al (F:PH):F.le F:=λ_ _ h=>h
theorem aa {F G H:PH} (h:F.le G) (k:G.le H):F.le H:=λb o hb=>k b o (h b o hb)
theorem ae {F:PH} {b:Nat} (o:Obj) (h:F b=ZR):F.le (F.set b o):=λx o' hx=>by
 unfold PH.set;by_cases hb:x=b
 ·subst hb;rw [h] at hx;cases hx
 ·simp [hb,hx]
theorem aK {F G:PH} (h:F.le G) {a:Addr} {v:Value} (hc:F.cell a=ZO v):G.cell a=ZO v:=by
 unfold PH.cell at*;cases hb:F a.block with
 |none=>simp [hb] at hc
 |some o=>rw [h _ _ hb];rw [hb] at hc;exact hc
theorem aV {F G:PH} (h:F.le G) {b:Nat} (hb:G b=ZR):F b=ZR:=by
 cases hf:F b with
 |none=>rfl
 |some o=>rw [h _ _ hf] at hb;cases hb
theorem aI {F:PH} {b c:Nat} {o:Obj} (hb:F b=ZR) (hc:F c=ZO o):c≠b:=by intro e;subst e;rw [hb] at hc;cases hc
@[simp] theorem aG (b o i:Nat):ZW ⟨b,o,ZR⟩ i=⟨b,o+i,ZR⟩:=by unfold ZW;split<;>simp_all
@[simp] theorem au (F:PH) (b:Nat) (o:Obj):(F.set b o) b=ZO o:=by simp [PH.set]
theorem aB (F:PH) {b x:Nat} (o:Obj) (h:x≠b):(F.set b o) x=F x:=by simp [PH.set,h]
@[simp] theorem aW (F:PH) (b:Nat) (o o':Obj):(F.set b o).set b o'=F.set b o':=set_set F b o o'
theorem av {F:PH} {b i:Nat} {c:Array Value} {e:TypeId} {fr:Nat×Nat} (h:F b=ZO (ZP c e fr)):F.cell ⟨b,i,ZR⟩=c[i]? :=by simp [PH.cell,h]
@[simp] theorem Ox (F:PH) (b i:Nat) (c:Array Value) (e:TypeId) (fr:Nat×Nat):(F.set b (ZP c e fr)).cell ⟨b,i,ZR⟩=c[i]? :=by simp [PH.cell]
def dH (fp:Nat->Prop) (F G:PH):Prop:=∀b o,F b=ZO o->¬fp b->G b=ZO o
theorem dH.refl (fp:Nat->Prop) (F:PH):dH fp F F:=λ_ _ h _=>h
theorem dH.trans {fp:Nat->Prop} {F G H:PH} (h:dH fp F G) (k:dH fp G H):dH fp F H:=λb o hb hn=>k b o (h b o hb hn) hn
theorem dH.of_le {fp:Nat->Prop} {F G:PH} (h:F.le G):dH fp F G:=λb o hb _=>h b o hb
theorem dH.set {fp:Nat->Prop} {F:PH} {b:Nat} (o:Obj) (h:fp b\/F b=ZR):dH fp F (F.set b o):=λx o' hx hn=>by
 by_cases hb:x=b
 ·subst hb;rcases h with h|h
  ·exact absurd h hn
  ·rw [h] at hx;cases hx
 ·rw [aB F o hb];exact hx
structure RdS (F:PH) (s:Sl) (size:Nat) (vs:List Value):Prop where
 len:vs.length=s.len*size
 cap:s.len<=s.cap
 cells:0<s.len->∃b o,s.ZK=ZO ⟨b,o,ZR⟩/\∀i,(h:i<vs.length)->F.cell ⟨b,o+i,ZR⟩=ZO vs[i]
theorem RdS.le {F G:PH} {s:Sl} {size:Nat} {vs:List Value} (h:RdS F s size vs) (hl:F.le G):RdS G s size vs:=
 ⟨h.len,h.cap,λhp=>by
  obtain ⟨b,o,h1,h2⟩:=h.cells hp
  exact ⟨b,o,h1,λi hi=>aK hl (h2 i hi)⟩⟩
theorem RdS.nil (F:PH) (size:Nat):RdS F Sl.nil size []:=⟨by simp [Sl.nil],by simp [Sl.nil],by simp [Sl.nil]⟩
theorem RdS.new {F:PH} {b n cap size:Nat} {c:Array Value} {e:TypeId} {fr:Nat×Nat} {vs:List Value} (h:F b=ZO (ZP c e fr)) (hv:c.toList.take (n*size)=vs) (hl:vs.length=n*size) (hc:n<=cap):
  RdS F ⟨ZO ⟨b,0,ZR⟩,n,cap⟩ size vs:=⟨hl,hc,λ_=>⟨b,0,rfl,λi hi=>by
   rw [av h];subst hv
   simp at hi ⊢⟩⟩
theorem RdS.row {F:PH} {s:Sl} {size:Nat} {vs:List Value} (h:RdS F s size vs) {a:Addr} (ha:s.ZK=ZO a) (k:Nat) (cs:Array Value) (hk:cs.toList=(vs.drop k).take cs.size):F.row (a.add k) cs:=by
 intro i hi;have hlen:k+i<vs.length:=by have:=congrArg List.length hk;rw [XX,Y6,XU] at this;omega
 have hp:0<s.len:=by
  rcases Y7 s.len with h0|h0
  ·have:=h.len;rw [h0,Y0] at this;omega
  ·exact h0
 obtain ⟨b,o,h1,h2⟩:=h.cells hp;rw [ha] at h1;cases h1;simp only [aG];rw [Nat.add_assoc,h2 (k+i) hlen];have e1:cs.toList[i]? =ZO cs[i]:=by simp [hi]
 rw [hk,Yp hi,Zn,N6 hlen] at e1;exact e1
theorem RdS.cell {F:PH} {s:Sl} {vs:List Value} (h:RdS F s 1 vs) {a:Addr} (ha:s.ZK=ZO a) {i:Nat} (hi:i<vs.length):F.cell (a.add i)=ZO vs[i]:=by
 have hp:0<s.len:=by have:=h.len;omega
 obtain ⟨b,o,h1,h2⟩:=h.cells hp;rw [ha] at h1;cases h1;simp only [aG];exact h2 i hi
theorem RdS.cut {F:PH} {s:Sl} {size:Nat} {vs:List Value} (h:RdS F s size vs) {l r m:Nat} (h1:l<=r) (h2:r<=s.len) (h3:r<=m):RdS F (s.cut size l r m) size ((vs.drop (l*size)).take ((r - l)*size)):=by
 have hle:(r - l)*size<=s.len*size - l*size:=by rw [<- Nat.sub_mul];exact YV _ (by omega)
 refine ⟨by rw [XX,Y6,h.len];simp only [Sl.cut];omega,by simp only [Sl.cut];omega,λhp=> ?_⟩;simp only [Sl.cut] at hp ⊢;obtain ⟨b,o,h4,h5⟩:=h.cells (by omega);have hm:¬m=l:=by omega
 refine ⟨b,o+l*size,by simp [hm,h4],λi hi=> ?_⟩;simp only [XX,Y6] at hi;rw [Nat.add_assoc,h5 (l*size+i) (by omega)];simp [List.getElem_take,List.getElem_drop]
theorem mT {P:Program} {n:Nat} {F:PH} {Q:Unit->PH->Prop} (h:Q () F):aH P (askRoom n) F Q:=by
 unfold askRoom;split
 ·exact h
 ·exact h
theorem bW {P:Program} {t e size bytes:Nat} {z:Value} {n c:Int} {k k':IntKind} {F:PH} {Q:Value->PH->Prop} (ht:P.underlying t=ZO (.slice e)) (hs:tsz P e=ZO (size,bytes)) (hz:bP P e=ZO z) (hzs:z.cells.size=size)
  (h0:0<=n) (hnc:n<=c) (hc:(bytes:Int)*c<=281474976710656) (hc63:c<=9223372036854775807)
  (h:∀b,F b=ZR->Q (Sl.v ⟨ZO ⟨b,0,ZR⟩,n.toNat,c.toNat⟩) (F.set b (ZP (Builtin.zeroCells z.cells c.toNat) e))):
  aH P (Instr.makeSlice t (.int k n) (.int k' c)) F Q:=by
 obtain ⟨i,hi,hti⟩:=fQ hs;have e1:IntKind.i64.wrap n=n:=aR (by omega);have e2:IntKind.i64.wrap c=c:=aR (by omega);simp only [Instr.makeSlice,aD,ca ht,asInt,asIntOf,aL,hti,hi,e1,e2];have hc0:0<=c:=by omega
 have g1:decide (c<0)=ZQ:=by simpa using hc0
 have g2:decide ((bytes:Int)*c>2 ^ 48)=ZQ:=by simp;omega
 have g3:decide (n<0)=ZQ:=by simpa using h0
 have g4:decide (n>c)=ZQ:=by simp;omega
 simp only [g1,g2,g3,g4,ZE,Yn,if_false,aD];refine mT ?_;simp only [fE hs];have fin:∀zz:Array Value,(Array.range (c.toNat*size)).map (λi=>zz[i % zz.size]!)=Builtin.zeroCells z.cells c.toNat->
   aH P (do let a <- newRow e ((Array.range (c.toNat*size)).map (λi=>zz[i % zz.size]!));pure (Value.slice (ZO a) n.toNat c.toNat)) F Q:=by
  intro zz hzz;rw [hzz];simp only [newRow,newObj,aD,aH,aL];exact h
 by_cases hn0:c.toNat*size=0
 ·simp only [hn0,if_true];have:=fin #[] (by simp [Builtin.zeroCells,hn0,hzs]);simp only [hn0] at this;exact this
 ·simp only [Υ hn0,aD,eR hz,aL];exact fin z.cells (by simp [Builtin.zeroCells,hzs])
theorem je {P:Program} {F:PH} {s:Sl} {size n:Nat} {vs:List Value} {Q:Array Value->PH->Prop} (h:RdS F s size vs) (hn:n<=s.len) (hq:Q (vs.take (n*size)).toArray F):aH P (Builtin.firstCells size n s.v) F Q:=by
 obtain ⟨ZK,len,cap⟩:=s;cases ZK with
 |none=>
  have h0:len=0:=by
   rcases Y7 len with h0|h0
   ·exact h0
   ·obtain ⟨b,o,h1,_⟩:=h.cells h0;cases h1
  have hn0:n=0:=by simp only at hn;omega
  have:=h.len;simp only [h0,Y0,YG] at this;subst this;simpa [Sl.v,Builtin.firstCells] using hq
 |some a=>
  simp only [Sl.v,Builtin.firstCells];have hlen:(vs.take (n*size)).toArray.size=n*size:=by have h1:=h.len;have h2:n*size<=len*size:=YV _ hn;simp only at h1;rw [Zt,XX,h1];omega
  refine ip _ _ _ _ ?_ hq;have key:F.row a (vs.take (n*size)).toArray->rdo P (loadCells a (n*size)) F (vs.take (n*size)).toArray:=λhr=>by have:=fq (P:=P) hr;rw [hlen] at this;exact this
  refine key ?_;by_cases hz:n*size=0
  ·intro i hi;rw [hlen,hz] at hi;omega
  ·have:=h.row (a:=a) rfl 0 (vs.take (n*size)).toArray (by rw [hlen];simp);simpa [ZW] using this
theorem jK {P:Program} {F:PH} {s x:Sl} {t e size bytes ty:Nat} {z:Value} {olds news:List Value} {Q:Value->PH->Prop} (ht:P.underlying t=ZO (.slice e)) (hsz:tsz P e=ZO (size,bytes)) (hz:bP P e=ZO z) (_:z.cells.size=size)
  (ho:RdS F s size olds) (hn:RdS F x size news) (hst:∀v∈news,am v) (hfit:(s.len+x.len)*bytes<=140737488355328) (hlen:s.len+x.len<=9223372036854775807)
  (h0:x.len*size=0->s.len+x.len<=s.cap->Q (Sl.v ⟨s.ZK,s.len+x.len,s.cap⟩) F)
  (h1:0<x.len*size->s.len+x.len<=s.cap->∃b o c e',s.ZK=ZO ⟨b,o,ZR⟩/\F b=ZO (ZP c e' (0,0))/\o+s.len*size+x.len*size<=c.size/\
   Q (Sl.v ⟨s.ZK,s.len+x.len,s.cap⟩) (F.set b (ZP (wr c (o+s.len*size) news) e')))
  (h2:s.cap<s.len+x.len->∀cap b,s.len+x.len<=cap->F b=ZR->Q (Sl.v ⟨ZO ⟨b,0,ZR⟩,s.len+x.len,cap⟩) (F.set b (ZP (olds.toArray++news.toArray++Builtin.zeroCells z.cells (cap - (s.len+x.len))) e))):
  aH P (Builtin.append_ #[t,t] ty #[s.v,x.v]) F Q:=by
 have hnl:=hn.len;have hol:=ho.len;have hfn:∀Q',Q' news.toArray F->aH P (Builtin.firstCells size x.len x.v) F Q':=λQ' hq=>je hn (XS _) (by rw [<- hnl,XZ];exact hq);have hfo:∀Q',Q' olds.toArray F->aH P (Builtin.firstCells size s.len s.v) F Q':=λQ' hq=>je ho (XS _) (by rw [<- hol,XZ];exact hq);obtain ⟨ZK,len,cap⟩:=s;obtain ⟨xb,xl,xc⟩:=x;simp only [Builtin.append_,aD,Sl.v,List.getElem?_toArray,List.getElem?_cons_zero,Yl,ca ht,Builtin.lenOf,aL,fE hsz,Yn,if_false,Bool.not_false,if_true] at*;obtain ⟨i,hib,hti⟩:=fQ hsz;by_cases hroom:len+xl<=cap
 ·rw [Χ hroom];simp only [aD];refine hfn _ ?_;by_cases hz0:xl*size=0
  ·have hnil:news=[]:=X9 (by rw [hnl,hz0]);cases ZK with
   |none=>exact h0 hz0 hroom
   |some a=>simp only [hnil,storeCells,aD,aL];exact h0 hz0 hroom
  ·obtain ⟨b,o,c,e',g1,g2,g3,g4⟩:=h1 (by omega) hroom;cases g1;simp only [aD];refine fM news 0 F _ c _ (by simp) (by simpa using g2) (by simp only [aG];rw [hnl];omega) hst (λhnn=>hz0 (by rw [<- hnl,hnn];rfl)) ?_;simpa using g4
 ·rw [Υ hroom];simp only [aD,hti]
  rw [Υ (by
   rintro ⟨ha,hb⟩;have:(IntKind.i64.max:Int)=9223372036854775807:=by decide
   rw [this] at ha
   omega)]
  have hg:=growslice_fits (need:=len+xl) (old:=cap) (bytes:=bytes) (by omega) hfit;simp only [aD,hti];rw [Υ (by rw [hib];omega)];simp only [aD,choose];unfold aH;rw [Υ (by simp [Question.forced])];intro tt;simp only [aH,hti];refine mT ?_;refine hfo _ ?_;refine hfn _ ?_;simp only [eR hz,newRow,newObj,aD,aH,aL];intro b hb;exact h2 (by omega) _ b (by simp only [Question.cut];omega) hb
open Go.ChangeShapes Go.WideShapes Go.ChangeAt Go.RowKit
def hF (W:World):PH:=λb=>W.heap[b]?
theorem DF {W:World} {a:Addr} {v:Value} (h:W.cell? a=ZO v):(hF W).cell a=ZO v:=h
theorem t4 {P:Program} {f:FuncId} {args:Array Value} {W:World} (h:aj P f args (hF W) λv F'=>v=.bool ZT/\(hF W).le F'):
  Calls P f args W λe W'=>e=.returned (.bool ZT)/\Below W.heap.size W W':=by
 refine (h ⟨W.os,W.tape,W.output,λ_=>ZR⟩ W ⟨rfl,rfl,rfl,λb o hb=>hb,λb o hb=>(by cases hb)⟩).mono ?_;rintro e W' ⟨v,F',rfl,hs,rfl,hle⟩;have key:∀(k:Nat) (o:Obj),W.heap[k]? =ZO o->W'.heap[k]? =ZO o:=λk o hk=>hs.heap k o (hle k o hk);refine ⟨rfl,hs.os,hs.tape,hs.output,?_,λk hk=> ?_⟩
 ·rcases Y7 W.heap.size with h0|h0
  ·omega
  ·have h1:=key (W.heap.size - 1) _ (Yc (by omega));have h2:=(Array.getElem?_eq_some_iff.1 h1).1;omega
 ·rw [Yc hk];exact key k _ (Yc hk)
section
variable {H:Type} {enc:TypeId×Value->H} {P:Program} {W W':World}
theorem kN (hl:laidOutB P=ZT) {sp:Nat->Bool} (hb:Below W.heap.size W W'):∀{ts:List TypeId} {vs:List Value} {ds:List (DataW H)} {ps:List MemPlace},
  ts.all (λt=>P.readableRec t && decide (t<P.types.size))=ZT->DataW.TrodAll enc P W 0 (λ_=>ZT) ZT ts vs ds ps->(∀x∈ps,x.block<W.heap.size)->(∀x∈ps,sp x.block=ZT)->DataW.TrodAll enc P W' 0 sp ZT ts vs ds ps
 |[],vs,ds,ps,_,h,_,_=>by obtain ⟨rfl,rfl,rfl⟩:=trodAll_nil h;rfl
 |t::ts,vs,ds,ps,ha,h,hlt,hsp=>by
  obtain ⟨v,vs',d,ds',p,q,rfl,rfl,rfl,h1,h2⟩:=trodAll_cons h;rw [Zx,Yt,Yt,δ] at ha;obtain ⟨⟨hr,hrow⟩,ha⟩:=ha
  exact ⟨p,q,WideElems.Trod_stays hl hr hrow h1 (λx hx=>hb.same (hlt x (Zb _ hx))) (λx hx=>hsp x (Zb _ hx)),
   kN hl hb ha h2 (λx hx=>hlt x (List.mem_append_right _ hx)) (λx hx=>hsp x (List.mem_append_right _ hx)),rfl⟩
theorem E6 {f:Func} {s:ChangeSpec} {args:Array Value} {ds gs:List (DataW H)} {before:List MemPlace} {tb:TypeId} {fresh:Bool}
  (hl:laidOutB P=ZT) (hv:s.vars=[]) (hW:DataW.Whole enc P f.params.toList s.vars ZQ W args.toList ds gs before) (hall:f.params.toList.all (λt=>P.readableRec t && decide (t<P.types.size))=ZT)
  (hr:f.resultTypes= #[tb]) (htb:P.underlying tb=ZO .bool) (hb:Below W.heap.size W W')
  (hs:s.fn H (ds++gs)={results:=[.lit (.bool ZT)],args:=ds}):
  s.post enc P f ZQ fresh ZQ ZQ W args (.bool ZT) W':=by
 have hW':=hW;obtain ⟨p,q,hA,hV,rfl,_,_⟩:=hW;rw [hv] at hV;obtain ⟨rfl,rfl⟩:=trodVars_none hV;have hlt:∀x∈p,x.block<W.heap.size:=λx hx=>by simpa using hW'.lt x (Zb _ hx)
 refine ⟨ds,[],p++[],[],p,[],hW',?_,?_,?_,hb.frame _,λh=>by cases h⟩
 ·rw [hs,hr];exact trodAll_cons_mk (shut_bool htb _) trodAll_mk0
 ·rw [hs];exact kN hl hb hall hA hlt (λx hx=>by simpa using hlt x hx)
 ·rw [hs,hv];rfl
end
set_option maxRecDepth 10000
def bt (f:Nat->Bool):Nat->Nat
 |0=>0
 |n+1=>2 ^ n*(if f n then 1 else 0)+bt f n
theorem tc (f:Nat->Bool):∀n,bt f n<2 ^ n
 |0=>by simp [bt]
 |n+1=>by have:=tc f n;unfold bt;rw [Nat.pow_succ];split<;>omega
theorem xd (f:Nat->Bool):∀n j,(bt f n).testBit j=(decide (j<n) && f j)
 |0,j=>by simp [bt]
 |n+1,j=>by
  unfold bt;rw [YN _ (tc f n)];split
  ·rename_i h;rw [xd f n j];simp [h,show j<n+1 by omega]
  ·rename_i h;by_cases hj:j=n
   ·subst hj;cases f j<;>simp
   ·have:j - n≠0:=by omega
    rw [show decide (j<n+1)=ZQ by simp;omega];split
    ·have:=Zz (n:=0) (m:=j - n);rw [Nat.pow_zero] at this;rw [this];simp;omega
    ·simp
theorem u0 {x n:Nat} {f:Nat->Bool} (hx:x<2 ^ n) (h:∀j,j<n->x.testBit j=f j):x=bt f n:=
 Nat.eq_of_testBit_eq λj=>by
  rw [xd];by_cases hj:j<n
  ·rw [h j hj];simp [hj]
  ·rw [Nat.testBit_lt_two_pow (Nat.lt_of_lt_of_le hx (Yz (by omega) (by omega)))];simp [hj]
theorem In {n:Nat} {f g:Nat->Bool} (h:∀j,j<n->f j=g j):bt f n=bt g n:=
 u0 (tc f n) λj hj=>by rw [xd,h j hj];simp [hj]
def wd (P:Nat->Bool) (k:Nat):Nat:=bt (λj=>P (64*k+j)) 64
theorem oT (P:Nat->Bool) (k:Nat):wd P k<18446744073709551616:=tc _ 64
theorem iS (P:Nat->Bool) (k:Nat) {j:Nat} (hj:j<64):(wd P k).testBit j=P (64*k+j):=by unfold wd;rw [xd];simp [hj]
theorem xe (k:Nat):wd (λ_=>ZQ) k=0:=(u0 (x:=0) (by decide) λj _=>by simp).symm
theorem U3 (P Q:Nat->Bool) (k:Nat):wd (λi=>P i || Q i) k=wd P k ||| wd Q k:=
 (u0 (x:=wd P k ||| wd Q k) (Nat.or_lt_two_pow (tc _ 64) (tc _ 64)) λj hj=>by rw [Nat.testBit_or,iS P k hj,iS Q k hj]).symm
theorem PU (P Q:Nat->Bool) (k:Nat):wd (λi=>P i && Q i) k=wd P k &&& wd Q k:=
 (u0 (x:=wd P k &&& wd Q k) (Nat.and_lt_two_pow _ (tc _ 64)) λj hj=>by rw [Nat.testBit_and,iS P k hj,iS Q k hj]).symm
theorem iT {P:Nat->Bool} {k:Nat}:wd P k=0↔∀j,j<64->P (64*k+j)=ZQ:=by
 constructor
 ·intro h j hj;have:=iS P k hj;rw [h] at this;simpa using this.symm
 ·intro h;exact (u0 (x:=0) (by decide) λj hj=>by rw [h j hj];simp).symm
theorem mU {x:Int} (h1:0<=x) (h2:x<18446744073709551616):IntKind.u64.wrap x=x:=by unfold IntKind.wrap;simp only [IntKind.bits,IntKind.signed];simp only [Bool.false_and,Yn,if_false];omega
theorem DG {a:Nat} (h:a<18446744073709551616):(BitVec.ofInt (IntKind.u64).bits (a:Int)).toNat=a:=by
 rw [BitVec.toNat_ofInt];show ((a:Int) % ((2 ^ 64:Nat):Int)).toNat=a;have:((2 ^ 64:Nat):Int)=18446744073709551616:=by decide
 rw [this];omega
theorem Io {a b:Nat} (ha:a<18446744073709551616) (hb:b<18446744073709551616):IntKind.u64.wrap ((BitVec.ofInt (IntKind.u64).bits (a:Int) ||| BitVec.ofInt (IntKind.u64).bits (b:Int)).toNat)=((a ||| b:Nat):Int):=by rw [BitVec.toNat_or,DG ha,DG hb];have:a ||| b<2 ^ 64:=Nat.or_lt_two_pow ha hb;exact mU (by omega) (by omega)
theorem xf {a b:Nat} (ha:a<18446744073709551616) (hb:b<18446744073709551616):IntKind.u64.wrap ((BitVec.ofInt (IntKind.u64).bits (a:Int) &&& BitVec.ofInt (IntKind.u64).bits (b:Int)).toNat)=((a &&& b:Nat):Int):=by rw [BitVec.toNat_and,DG ha,DG hb];have:a &&& b<2 ^ 64:=Nat.and_lt_two_pow _ hb;exact mU (by omega) (by omega)
def Low (x t:Nat):Prop:=∃m,x=2 ^ (t+1)*m+2 ^ t
theorem Low.of {x t:Nat} (h1:x.testBit t=ZT) (h2:∀j,j<t->x.testBit j=ZQ):Low x t:=by
 refine ⟨x / 2 ^ (t+1),Nat.eq_of_testBit_eq λj=> ?_⟩;rw [YN _ (Nat.pow_lt_pow_right (by omega) (by omega))];split
 ·rename_i h;rw [Zz];by_cases hj:j=t
  ·subst hj;rw [h1];simp
  ·rw [h2 j (by omega)];simp;omega
 ·rw [Nat.testBit_div_two_pow];congr 1;omega
theorem Low.pos {x t:Nat} (h:Low x t):0<x:=by obtain ⟨m,rfl⟩:=h;have:=Nat.two_pow_pos t;omega
theorem Low.clear {x t:Nat} (h:Low x t) (j:Nat):(x &&& (x - 1)).testBit j=(x.testBit j && decide (j≠t)):=by
 obtain ⟨m,rfl⟩:=h;have hp:=Nat.two_pow_pos t;have e:2 ^ (t+1)*m+2 ^ t - 1=2 ^ (t+1)*m+(2 ^ t - 1):=by omega
 have l1:2 ^ t<2 ^ (t+1):=Nat.pow_lt_pow_right (by omega) (by omega);rw [e,Nat.testBit_and,YN _ l1,YN _ (by omega)];split
 ·rw [Zz,Nat.testBit_two_pow_sub_one];by_cases hj:t=j
  ·subst hj;simp
  ·simp [hj]
 ·rename_i h;rw [Bool.and_self];simp;omega
theorem Low.neg {x t:Nat} (h:Low x t) (hx:x<2 ^ 64):x &&& (2 ^ 64 - x)=2 ^ t:=by
 have ht:t<64:=by
  rcases Nat.lt_or_ge t 64 with h1|h1
  ·exact h1
  ·obtain ⟨m,rfl⟩:=h;have:=Yz (n:=2) (by omega) h1;omega
 obtain ⟨m,rfl⟩:=h;have hp:=Nat.two_pow_pos t;have l1:2 ^ t<2 ^ (t+1):=Nat.pow_lt_pow_right (by omega) (by omega);have e64:(2:Nat) ^ 64=2 ^ (t+1)*2 ^ (63 - t):=by rw [<- Nat.pow_add];congr 1;omega
 have hm:m<2 ^ (63 - t):=by
  rcases Nat.lt_or_ge m (2 ^ (63 - t)) with h1|h1
  ·exact h1
  ·have:=Nat.mul_le_mul_left (2 ^ (t+1)) h1;omega
 have e:2 ^ 64 - (2 ^ (t+1)*m+2 ^ t)=2 ^ (t+1)*(2 ^ (63 - t) - (m+1))+2 ^ t:=by
  have h2:2 ^ (t+1)=2 ^ t+2 ^ t:=by rw [Nat.pow_succ];omega
  have:2 ^ (t+1)*(2 ^ (63 - t) - (m+1))=2 ^ (t+1)*2 ^ (63 - t) - 2 ^ (t+1)*(m+1):=Nat.mul_sub _ _ _;rw [this,<- e64,Nat.mul_add,Yj];have:2 ^ (t+1)*m+2 ^ (t+1)<=2 ^ 64:=by rw [e64];have:=Nat.mul_le_mul_left (2 ^ (t+1)) (show m+1<=2 ^ (63 - t) by omega);rw [Nat.mul_add,Yj] at this;exact this
  omega
 rw [e];refine Nat.eq_of_testBit_eq λj=> ?_;rw [Nat.testBit_and,YN _ l1,YN _ l1,Zz];split
 ·rw [Bool.and_self]
 ·rename_i h;rw [Nat.testBit_two_pow_sub_succ hm];have:decide (t=j)=ZQ:=by simp;omega
  rw [this];cases m.testBit (j - (t+1))<;>simp
def yT:List Nat:=[0,1,56,2,57,49,28,3,61,58,42,50,38,29,17,4,62,47,59,36,45,43,51,22,53,39,33,30,24,18,12,5,63,55,48,27,60,41,37,16,46,35,44,21,52,32,23,11,54,26,40,15,34,20,31,10,25,14,19,9,13,8,7,6]
theorem U4:∀t,t<64->(2 ^ t*285870213051353865 % 18446744073709551616) / 288230376151711744<64/\yT[(2 ^ t*285870213051353865 % 18446744073709551616) / 288230376151711744]? =ZO t:=by decide
section
variable {P:Program} {F:PH} {E:En} {o:Oper} {x y:Operand} {t t':TypeId}
theorem oU {op:BinOp} {c d:Array Value} (h:P.eqGuardType P.depth t=ZQ):rdo P (eqGuard op t x y (.agg c) (.agg d)) F ():=by cases op<;>simp [eqGuard,program,ak,rdo,h]
theorem LC {c d:Array Value} {r:Bool} (ho:o.op=.binOp .eql t x y t') (hx:ev E x=.agg c) (hy:ev E y=.agg d) (hg:P.eqGuardType P.depth t=ZQ) (he:rdo P (Op.equal t (.agg c) (.agg d)) F r):
  RD P E F o (.bool r):=qA ho hx hy (oU hg) he rfl
theorem LD {c d:Array Value} {r:Bool} (ho:o.op=.binOp .neq t x y t') (hx:ev E x=.agg c) (hy:ev E y=.agg d) (hg:P.eqGuardType P.depth t=ZQ) (he:rdo P (Op.equal t (.agg c) (.agg d)) F r):
  RD P E F o (.bool (!r)):=qB ho hx hy (oU hg) he rfl
end
section
end
section
variable {K:Type} [DecidableEq K]
structure oV (P:Program) (kt:TypeId) (enc:K->Value):Prop where
 eq:∀F a b,rdo P (Op.equal kt (enc a) (enc b)) F (decide (a=b))
 chk:∀F e a,rdo P (Instr.checkKey e 10000 kt (enc a)) F ()
 same:∀a,Instr.sameBits 10000 (enc a) (enc a)=ZT
 kind:∃d,P.underlying kt=ZO d/\((∀a b,Instr.sameNow d (enc a) (enc b)=ZO (decide (a=b)))\/∀a b,Instr.sameNow d (enc a) (enc b)=ZR)
structure gn (P:Program) (mt:TypeId) (enc:K->Value) (z:Value):Prop where
 ex:∃kt e,P.underlying mt=ZO (.map kt e)/\bP P e=ZO z/\oV P kt enc
def lk (k:K):List (K×Value)->Option Value
 |[]=>ZR
 |p::r=>if k=p.1 then ZO p.2 else lk k r
def fnd (k:K):List (K×Value)->Nat->Option (Nat×Value)
 |[],_=>ZR
 |p::r,i=>if k=p.1 then ZO (i,p.2) else fnd k r (i+1)
def upL (k:K) (v:Value):List (K×Value)->List (K×Value)
 |[]=>[(k,v)]
 |p::r=>if k=p.1 then (k,v)::r else p::upL k v r
theorem A5 (k k':K) (v:Value):∀(L:List (K×Value)),lk k' (upL k v L)=if k'=k then ZO v else lk k' L
 |[]=>rfl
 |p::r=>by
  unfold upL;split
  ·rename_i h;simp only [lk];split
   ·rfl
   ·rename_i hn;rw [Υ (by rw [<- h];exact hn)]
  ·rename_i h;simp only [lk,A5 k k' v r];split
   ·rename_i h2;rw [Υ (by rintro rfl;exact h h2)]
   ·rfl
theorem mV (k:K) (v:Value):∀(L:List (K×Value)) (i:Nat),fnd k L i=ZR->lk k L=ZR/\upL k v L=L++[(k,v)]
 |[],_,_=>⟨rfl,rfl⟩
 |p::r,i,h=>by
  unfold fnd at h;split at h
  ·cases h
  ·rename_i hn;obtain ⟨h1,h2⟩:=mV k v r _ h;exact ⟨by unfold lk;rw [Υ hn,h1],by unfold upL;rw [Υ hn,h2];rfl⟩
theorem mW (k:K) (v:Value):∀(L:List (K×Value)) (i j:Nat) (w:Value),fnd k L i=ZO (j,w)->∃d,j=i+d/\d<L.length/\L[d]? =ZO (k,w)/\lk k L=ZO w/\upL k v L=L.set d (k,v)
 |[],_,_,_,h=>by cases h
 |p::r,i,j,w,h=>by
  unfold fnd at h;split at h
  ·rename_i hp;cases h;refine ⟨0,rfl,by simp,?_,by unfold lk;rw [Χ hp],by unfold upL;rw [Χ hp];rfl⟩;subst hp;rfl
  ·rename_i hn;obtain ⟨d,h1,h2,h3,h4,h5⟩:=mW k v r _ _ _ h;exact ⟨d+1,by omega,by simp only [X4];omega,by simpa using h3,by unfold lk;rw [Υ hn,h4],by unfold upL;rw [Υ hn,h5];rfl⟩
def eM (enc:K->Value) (m:K->Option Value) (o:Obj):Prop:=
 ∃(es:Array MapEntry) (c:Nat) (L:List (K×Value)),o=.map es c/\es.toList.map (λe=>(e.key,e.val))=L.map (λp=>(enc p.1,p.2))/\∀k,m k=lk k L
theorem eM.empty (enc:K->Value):eM enc (λ_=>ZR) (.map #[] 0):=⟨#[],0,[],rfl,rfl,λ_=>rfl⟩
theorem eM.not_cells {enc:K->Value} {m:K->Option Value} {o:Obj} (h:eM enc m o):∀c e fr,o≠ZP c e fr:=by obtain ⟨es,c,L,rfl,_⟩:=h;intro c e fr h;cases h
variable {P:Program} {F:PH} {kt mt:TypeId} {enc:K->Value} {z:Value}
theorem jL (hk:oV P kt enc) (k:K):∀(es:List MapEntry) (L:List (K×Value)) (i:Nat),es.map (λe=>(e.key,e.val))=L.map (λp=>(enc p.1,p.2))->
  rdo P (Instr.findAsking kt (enc k) es i) F (fnd k L i)
 |[],[],_,_=>rfl
 |[],_::_,_,h=>by cases h
 |_::_,[],_,h=>by cases h
 |e::es,p::L,i,h=>by
  simp only [Yf,List.cons.injEq,ZF] at h;obtain ⟨⟨h1,h2⟩,h3⟩:=h;simp only [Instr.findAsking,ak];refine ⟨_,by rw [h1];exact hk.eq F k p.1,?_⟩;unfold fnd;by_cases hp:k=p.1
  ·simp [hp,h2]
  ·simpa [hp] using jL hk k es L (i+1) h3
theorem te {d:TypeDesc} (hs:∀a b,Instr.sameNow d (enc a) (enc b)=ZO (decide (a=b))) (k:K):∀(es:List MapEntry) (L:List (K×Value)) (i:Nat),es.map (λe=>(e.key,e.val))=L.map (λp=>(enc p.1,p.2))->
  Instr.findNow d (enc k) es i=ZO (fnd k L i)
 |[],[],_,_=>rfl
 |[],_::_,_,h=>by cases h
 |_::_,[],_,h=>by cases h
 |e::es,p::L,i,h=>by
  simp only [Yf,List.cons.injEq,ZF] at h;obtain ⟨⟨h1,h2⟩,h3⟩:=h;simp only [Instr.findNow,h1,hs];unfold fnd;by_cases hp:k=p.1
  ·simp [hp,h2]
  ·simpa [hp] using te hs k es L (i+1) h3
theorem gJ (hk:oV P kt enc) (k:K) (es:List MapEntry) (L:List (K×Value)) (h:es.map (λe=>(e.key,e.val))=L.map (λp=>(enc p.1,p.2))):
  rdo P (Instr.findKey kt (enc k) es) F (fnd k L 0):=by
 obtain ⟨d,hd,hs⟩:=hk.kind;unfold Instr.findKey;simp only [ak];refine ⟨d,(az hd _).2 rfl,?_⟩;rcases hs with hs|hs
 ·rw [te hs k es L 0 h];rfl
 ·cases es with
  |nil=>
   cases L with
   |nil=>rfl
   |cons _ _=>cases h
  |cons e es=>
   cases L with
   |nil=>cases h
   |cons p L=>
    have h1:e.key=enc p.1:=by simp only [Yf,List.cons.injEq,ZF] at h;exact h.1.1
    have:Instr.findNow d (enc k) (e::es) 0=ZR:=by simp only [Instr.findNow,h1,hs]
    rw [this];exact jL hk k _ _ 0 h
theorem bL (hm:gn P mt enc z) {r:Nat} {o:Obj} {m:K->Option Value} (hr:F r=ZO o) (ho:eM enc m o) (k:K) (ok:Bool):
  rdo P (Instr.lookup mt (.map (ZO r)) (enc k) ok) F (if ok then .tuple #[(m k).getD z,.bool (m k).isSome] else (m k).getD z):=by
 obtain ⟨kt,e,h1,h2,hk⟩:=hm.ex;have hnc:=ho.not_cells;obtain ⟨es,c,L,rfl,h3,h4⟩:=ho;have hf:=λw=>mW k w L 0;have hn:=mV k z L 0;unfold Instr.lookup;simp only [ak];refine ⟨_,(az h1 _).2 rfl,?_⟩;simp only [ak];refine ⟨_,⟨_,hr,hnc,rfl⟩,?_⟩;simp only [ak];refine ⟨es,rfl,(),hk.chk F _ k,?_⟩;cases hfd:fnd k L 0 with
 |none=>refine ⟨_,gJ hk k _ _ h3,?_⟩;rw [hfd];simp only [ak];refine ⟨z,(gR h2 _).2 rfl,_,rfl,?_⟩;rw [h4,(hn hfd).1];rfl
 |some q=>obtain ⟨j,v⟩:=q;obtain ⟨d,_,_,_,h5,_⟩:=hf z j v hfd;refine ⟨_,gJ hk k _ _ h3,?_⟩;rw [hfd];simp only [ak];refine ⟨_,rfl,?_⟩;rw [h4,h5];rfl
theorem aX (hm:gn P mt enc z) {r:Nat} {o:Obj} {m:K->Option Value} (hr:F r=ZO o) (ho:eM enc m o) (k:K) (v:Value) {Q:Unit->PH->Prop}
  (h:∀o',eM enc (λk'=>if k'=k then ZO v else m k') o'->Q () (F.set r o')):aH P (Instr.mapUpdate mt (.map (ZO r)) (enc k) v) F Q:=by
 obtain ⟨kt,e,h1,h2,hk⟩:=hm.ex;have hnc:=ho.not_cells;obtain ⟨es,c,L,rfl,h3,h4⟩:=ho;have hf:=mW k v L 0;have hn:=mV k v L 0;unfold Instr.mapUpdate;simp only [aD,ca h1];refine ⟨_,hr,hnc,?_⟩;rw [show (Sem.pure (Obj.map es c):Sem Obj)=pure (Obj.map es c) from rfl];simp only [aL,aD];refine ip _ _ _ _ (hk.chk F _ k) ?_;refine ip _ _ _ _ (gJ hk k _ _ h3) ?_;have hmm:∀k',(if k'=k then ZO v else m k')=lk k' (upL k v L):=λk'=>by rw [A5,h4]
 cases hfd:fnd k L 0 with
 |none=>refine ⟨_,hr,hnc,h _ ⟨_,_,upL k v L,rfl,?_,hmm⟩⟩;rw [(hn hfd).2];simp [h3]
 |some q=>
  obtain ⟨j,w⟩:=q;obtain ⟨d,hj,hd,h5,h6,h7⟩:=hf j w hfd;obtain rfl:j=d:=by omega
  have hlen:es.size=L.length:=by simpa using congrArg List.length h3
  have hkey:(es[j]?.map (·.key)).getD (enc k)=enc k:=by
   have:=congrArg (λl=>l[j]?) h3;simp only [X2,h5,YD] at this;have hj2:j<es.size:=by omega
   simp [hj2] at this ⊢;exact this.1
  simp only [aD,hkey,Instr.keyThatStays,hk.same,if_true,aL];refine ⟨_,hr,hnc,h _ ⟨_,_,upL k v L,rfl,?_,hmm⟩⟩;rw [h7];apply Yx;intro i;have h3i:=congrArg (λl=>l[i]?) h3;simp only [X2] at h3i;simp only [Array.toList_modify,X2,Zc,Ze];by_cases hi:j=i
  ·subst hi;have hj2:j<es.toList.length:=by simpa [hlen] using hd
   rw [N6 hj2];simp [hd]
  ·simp only [hi,if_false];simpa using h3i
end
theorem st1 {F:PH} {b o:Nat} {v:Value} {c:Array Value} {e:TypeId} {K:PH->Prop} (h:F b=ZO (ZP c e (0,0))) (hl:o<c.size) (k:K (F.set b (ZP (c.setIfInBounds o v) e))):
  ∃c e,F (ZX b o ZR).block=ZO (ZP c e (0,0))/\(ZX b o ZR).spot=ZR/\(ZX b o ZR).off<c.size/\
   atF (F.set (ZX b o ZR).block (ZP (c.setIfInBounds (ZX b o ZR).off v) e)) K:=⟨c,e,h,rfl,hl,k⟩
theorem tf {F:PH} {A:Addr} {b o:Nat} {v:Value} {c:Array Value} {e:TypeId} {K:PH->Prop} (hA:A=⟨b,o,ZR⟩) (h:F b=ZO (ZP c e (0,0))) (hl:o<c.size) (k:K (F.set b (ZP (c.setIfInBounds o v) e))):
  ∃c e,F A.block=ZO (ZP c e (0,0))/\A.spot=ZR/\A.off<c.size/\atF (F.set A.block (ZP (c.setIfInBounds A.off v) e)) K:=by
 subst hA;exact st1 h hl k
theorem Ip {c d:Array Value} (h:c.size=d.size):wr c 0 d.toList=d:=by
 apply Array.ext
 ·rw [ee,h]
 ·intro i h1 h2;have:=wZ d.toList c 0 i (by simp [h]);rw [Χ (by simp;omega)] at this;simp only [Y9] at this;rw [Yc h1] at this;simp at this;rw [Yc h2] at this;exact Yh this
theorem stW {F:PH} {b n:Nat} {v c:Array Value} {e:TypeId} {K:PH->Prop} (h:F b=ZO (ZP c e (0,0))) (hs:v.size=n) (hc:c.size=n) (hst:∀x∈v.toList,am x) (k:K (F.set b (ZP v e))):
  v.size=n/\(∀x∈v.toList,am x)/\∃c e,F (ZX b 0 ZR).block=ZO (ZP c e (0,0))/\(ZX b 0 ZR).spot=ZR/\(ZX b 0 ZR).off+n<=c.size/\
   atF (F.set (ZX b 0 ZR).block (ZP (wr c (ZX b 0 ZR).off v.toList) e)) K:=
 ⟨hs,hst,c,e,h,rfl,by simp [hc],by
  unfold atF;rw [show (ZX b 0 ZR).off=0 from rfl,Ip (by rw [hc,hs])]
  exact k⟩
theorem zc1 (v:Value) (h:v.cells= #[v]) (n:Nat):Builtin.zeroCells v.cells n=(List.replicate n v).toArray:=by
 rw [qC _ (by rw [h];rfl),h];congr 1;induction n with
 |zero=>rfl
 |succ n ih=>simp [List.replicate_succ,ih]
theorem U5 {n:Nat} (h:n<=9223372036854775807):IntKind.i64.wrap (n:Int)=n:=aR (by omega)
theorem fF {n:Nat} (h:n<9223372036854775807):IntKind.i64.wrap ((n:Int)+1)=((n+1:Nat):Int):=by rw [aR (by omega)];omega
theorem dR (vs:List Value):∀(c:List Value) (o:Nat),o+vs.length<=c.length->wr c.toArray o vs=(c.take o++vs++c.drop (o+vs.length)).toArray:=by
 intro c o h;apply Array.ext
 ·rw [ee];simp;omega
 ·intro i h1 h2;have:=wZ vs c.toArray o i (by simpa using h);rw [Yc h1] at this;rw [ee] at h1;simp only [Zt] at h1;have h3:(c.take o++vs++c.drop (o+vs.length)).toArray[i]=(c.take o++vs++c.drop (o+vs.length))[i]'(by simpa using h2):=by simp
  rw [h3];apply Yh;rw [<- N6,this];by_cases hi:i<o
  ·rw [Υ (by omega),Yk,X0 (by simp;omega)];simp [hi]
  ·by_cases hj:i<o+vs.length
   ·rw [Χ ⟨by omega,hj⟩,X0 (by simp;omega),X6 (by simp;omega)];simp;congr 1;omega
   ·rw [Υ (by omega),X6 (by simp;omega)];simp;congr 1;omega
def bX (F:PH) (e size:Nat) (s:Sl) (vs:List Value):Prop:=
 (s=Sl.nil/\vs=[])\/∃b cur,s.ZK=ZO ⟨b,0,ZR⟩/\F b=ZO (ZP cur e (0,0))/\cur.size=s.cap*size/\s.len<=s.cap/\vs.length=s.len*size/\cur.toList.take (s.len*size)=vs
theorem bX.rd {F:PH} {e size:Nat} {s:Sl} {vs:List Value} (h:bX F e size s vs):RdS F s size vs:=by
 rcases h with ⟨rfl,rfl⟩|⟨b,cur,h1,h2,h3,h4,h5,h6⟩
 ·exact RdS.nil F size
 ·obtain ⟨ZK,len,cap⟩:=s;cases h1;exact RdS.new h2 h6 h5 h4
theorem bX.keep {F G:PH} {e size:Nat} {s:Sl} {vs:List Value} (h:bX F e size s vs) (hk:∀a,s.ZK=ZO a->G a.block=F a.block):bX G e size s vs:=by
 rcases h with h|⟨b,cur,h1,h2,h3⟩
 ·exact .inl h
 ·exact .inr ⟨b,cur,h1,(hk _ h1).trans h2,h3⟩
theorem tj {F:PH} {s x:Sl} {t e size bytes ty:Nat} {z:Value} {P:Program} {olds news:List Value} {Q:Value->PH->Prop} (ht:P.underlying t=ZO (.slice e)) (hsz:tsz P e=ZO (size,bytes)) (hz:bP P e=ZO z) (hzs:z.cells.size=size) (hs0:0<size)
  (ho:bX F e size s olds) (hn:RdS F x size news) (hx:0<x.len) (hst:∀v∈news,am v) (hfit:(s.len+x.len)*bytes<=140737488355328) (hlen:s.len+x.len<=9223372036854775807)
  (h:∀s' F' b o,F'=F.set b o->bX F' e size s' (olds++news)->s'.len=s.len+x.len->(∀a,s'.ZK=ZO a->a.block=b)->((∃a,s.ZK=ZO a/\a.block=b)\/F b=ZR)->Q s'.v F'):
  aH P (Builtin.append_ #[t,t] ty #[s.v,x.v]) F Q:=by
 have hpos:0<x.len*size:=Nat.mul_pos hx hs0;have hol:=ho.rd.len;refine jK ht hsz hz hzs ho.rd hn hst hfit hlen (λh0=>by omega) ?_ ?_
 ·intro _ hroom;rcases ho with ⟨rfl,rfl⟩|⟨b,cur,h1,h2,h3,h4,h5,h6⟩
  ·simp [Sl.nil] at hroom;omega
  ·have hle:s.len*size+x.len*size<=cur.size:=by rw [h3,<- Zu];exact YV _ hroom
   refine ⟨b,0,cur,e,h1,h2,by omega,?_⟩;refine h ⟨_,_,_⟩ _ b _ rfl (.inr ⟨b,_,h1,au _ _ _,by rw [ee,h3],hroom,by simp [h5,hn.len,Zu],?_⟩) rfl (λa ha=>by rw [h1] at ha;cases ha;rfl) (.inl ⟨_,h1,rfl⟩);simp only [X5];have hw:=dR news cur.toList (s.len*size) (by simp [hn.len];omega);rw [show cur.toList.toArray=cur by simp] at hw;rw [hw];simp only;rw [h6,Zu];rw [Yb (by simp [h5,hn.len]),XY (by simp [h5,hn.len])]
 ·intro hgt cap b hc hb;refine h ⟨_,_,_⟩ _ b _ rfl (.inr ⟨b,_,rfl,au _ _ _,?_,hc,by simp [hol,hn.len,Zu],?_⟩) rfl (λa ha=>by cases ha;rfl) (.inr hb)
  ·simp [Builtin.zeroCells,hzs,hol,hn.len];rw [<- Zu,<- Zu];congr 1;omega
  ·simp only [List.append_toArray,Array.toList_append];rw [Yb (by simp [hol,hn.len,Zu]),XY (by simp [hol,hn.len,Zu])]
theorem oW {F:PH} {s x:Sl} {t e size bytes ty:Nat} {z:Value} {P:Program} {olds news:List Value} {Q:Value->PH->Prop} (ht:P.underlying t=ZO (.slice e)) (hsz:tsz P e=ZO (size,bytes)) (hz:bP P e=ZO z) (hzs:z.cells.size=size)
  (ho:bX F e size s olds) (hn:RdS F x size news) (hx:x.len=0) (hfit:s.len*bytes<=140737488355328) (hlen:s.len<=9223372036854775807)
  (h:Q s.v F):aH P (Builtin.append_ #[t,t] ty #[s.v,x.v]) F Q:=by
 have hnil:news=[]:=X9 (by rw [hn.len,hx,Y0]);subst hnil;refine jK ht hsz hz hzs ho.rd hn (by simp) (by rw [hx];exact hfit) (by rw [hx];exact hlen) (λ_ _=> ?_) (λh1=> ?_) (λh1=> ?_)
 ·rw [hx];exact h
 ·rw [hx] at h1;simp at h1
 ·have:=ho.rd.cap;omega
theorem iU {F0 F:PH} {s x:Sl} {t e size bytes ty:Nat} {z:Value} {P:Program} {olds news:List Value} {Q:Value->PH->Prop} (ht:P.underlying t=ZO (.slice e)) (hsz:tsz P e=ZO (size,bytes)) (hz:bP P e=ZO z) (hzs:z.cells.size=size) (hs0:0<size)
  (hle:F0.le F) (ho:bX F e size s olds) (hnew:∀a,s.ZK=ZO a->F0 a.block=ZR) (hn:RdS F x size news) (hst:∀v∈news,am v) (hfit:(s.len+x.len)*bytes<=140737488355328) (hlen:s.len+x.len<=9223372036854775807)
  (h:∀s' F',F0.le F'->bX F' e size s' (olds++news)->s'.len=s.len+x.len->(∀a,s'.ZK=ZO a->F0 a.block=ZR)->dH (λb=>∃a,s.ZK=ZO a/\a.block=b) F F'->(∀a,s'.ZK=ZO a->(∃a',s.ZK=ZO a'/\a'.block=a.block)\/F a.block=ZR)->Q s'.v F'):
  aH P (Builtin.append_ #[t,t] ty #[s.v,x.v]) F Q:=by
 by_cases h0:x.len=0
 ·have hnil:news=[]:=X9 (by rw [hn.len,h0,Y0]);refine oW ht hsz hz hzs ho hn h0 (by rw [h0] at hfit;exact hfit) (by omega) ?_;refine h s F hle (by rw [hnil,Ys];exact ho) (by omega) hnew (dH.refl _ _) (λa ha=> .inl ⟨a,ha,rfl⟩)
 ·refine tj ht hsz hz hzs hs0 ho hn (by omega) hst hfit hlen ?_;rintro s' F' b ob rfl ho' hl' hbase hb;have hb0:F0 b=ZR:=by
   rcases hb with ⟨a,ha,rfl⟩|hb
   ·exact hnew a ha
   ·exact aV hle hb
  refine h s' _ (λy o hy=> ?_) ho' hl' (λa ha=>by rw [hbase a ha];exact hb0) (λy o hy hn=> ?_) (λa ha=> ?_)
  ·rw [aB _ _ (λe=>by rw [e,hb0] at hy;cases hy)];exact hle _ _ hy
  ·rw [aB]
   ·exact hy
   ·rintro rfl;rcases hb with hb|hb
    ·exact hn hb
    ·rw [hb] at hy;cases hy
  ·rw [hbase a ha];exact hb
theorem ac {F:PH} {b e:Nat} {c:Array Value} {fr:Nat×Nat} (h:F b=ZO (ZP c e fr)):F.row (ZX b 0 ZR) c:=by intro i hi;rw [aG,av h];simp
theorem aA {F0 F:PH} {b:Nat} {o:Obj} (h:F0.le F) (hb:F0 b=ZR):F0.le (F.set b o):=λy o' hy=>by rw [aB _ _ (λe=>by rw [e,hb] at hy;cases hy)];exact h _ _ hy
theorem aj.upon {P:Program} {f:FuncId} {args:Array Value} {F F2:PH} {R:Value->PH->Prop} (h:aj P f args F R) (hle:F.le F2):
  aj P f args F2 λv F'=>∃G,R v G/\G.le F'/\∀b o,F b=ZR->F2 b=ZO o->F' b=ZO o/\G b=ZR:=by
 have e:F2=F.and (λb=>if (F b).isNone then F2 b else ZR):=by
  funext b;cases hf:F b with
  |some o=>rw [PH.and_left hf];exact hle b o hf
  |none=>rw [PH.and_right hf];simp [hf]
 have hb:=h.beside (H:=λb=>if (F b).isNone then F2 b else ZR) (λb o hb=>by
  cases hf:F b with
  |some o'=>simp [hf] at hb
  |none=>rfl)
 rw [<- e] at hb;refine hb.mono ?_;rintro v F' ⟨G,hr,rfl,hd⟩;refine ⟨G,hr,λb o hb=>PH.and_left hb,λb o hb ho=> ?_⟩;have hH:(λb=>if (F b).isNone then F2 b else ZR) b=ZO o:=by simp [hb,ho]
 have hG:=hd b o hH;exact ⟨(PH.and_right hG).trans hH,hG⟩
inductive Tr where
 |ZL (b:Bool)
 |ZM (v:Nat) (l h:Tr)
deriving DecidableEq
abbrev Cf:=Nat->Bool
def Cf.set (c:Cf) (v:Nat) (b:Bool):Cf:=λi=>if i=v then b else c i
namespace Tr
def top:Tr->Nat
 |ZL _=>64
 |ZM v _ _=>v
def ev:Tr->Cf->Bool
 |ZL b,_=>b
 |ZM v l h,c=>if c v=ZT then h.ev c else l.ev c
def ok:Tr->Prop
 |ZL _=>True
 |ZM v l h=>v<64/\v<l.top/\v<h.top/\l≠h/\l.ok/\h.ok
def sz:Tr->Nat
 |ZL _=>1
 |ZM _ l h=>l.sz+h.sz+1
def mk (v:Nat) (l h:Tr):Tr:=if l=h then l else ZM v l h
def lo (v:Nat):Tr->Tr
 |ZL b=>ZL b
 |ZM w l h=>if w=v then l else ZM w l h
def hi (v:Nat):Tr->Tr
 |ZL b=>ZL b
 |ZM w l h=>if w=v then h else ZM w l h
def isL:Tr->Bool
 |ZL _=>ZT
 |ZM _ _ _=>ZQ
theorem tn {t:Tr} (h:t.ok) (hl:t.isL=ZQ):t.top<64:=by
 cases t with
 |ZL b=>cases hl
 |ZM v l r=>exact h.1
theorem lf:∀(t:Tr),0<t.sz
 |ZL _=>Nat.one_pos
 |ZM _ _ _=>Nat.succ_pos _
theorem tp:∀(t:Tr),t.ok->∀(c d:Cf),(∀i,t.top<=i->c i=d i)->t.ev c=t.ev d
 |ZL _,_,_,_,_=>rfl
 |ZM v l h,⟨_,h1,h2,_,h4,h5⟩,c,d,hc=>by simp only [ev];rw [hc v (XS _),tp l h4 c d (λi hi=>hc i (by simp only [top];omega)),tp h h5 c d (λi hi=>hc i (by simp only [top];omega))]
theorem lh {t:Tr} (h:t.ok) {v:Nat} (hv:v<t.top) (c:Cf) (b:Bool):t.ev (c.set v b)=t.ev c:=
 tp t h _ _ λi hi=>by unfold Cf.set;rw [Υ (by omega)]
theorem U6:∀(n:Nat) (a b:Tr),a.sz+b.sz<=n->a.ok->b.ok->(∀c,a.ev c=b.ev c)->a=b:=by
 intro n;induction n with
 |zero=>intro a b hn;have:=lf a;omega
 |succ n ih=>
  have key:∀(v:Nat) (l h b:Tr),(ZM v l h).sz+b.sz<=n+1->(ZM v l h).ok->b.ok->v<b.top->(∀c,(ZM v l h).ev c=b.ev c)->False:=by
   rintro v l h b hn ⟨h0,h1,h2,h3,h4,h5⟩ hb hv he;have hp:=lf b;simp only [sz] at hn;refine h3 (ih l h (by omega) h4 h5 λc=> ?_);have e1:=he (c.set v ZQ);have e2:=he (c.set v ZT);rw [lh hb hv] at e1 e2;have f1:(ZM v l h).ev (c.set v ZQ)=l.ev c:=by simp only [ev];rw [Υ (by simp [Cf.set]),lh h4 h1]
   have f2:(ZM v l h).ev (c.set v ZT)=h.ev c:=by simp only [ev];rw [Χ (by simp [Cf.set]),lh h5 h2]
   rw [<- f1,<- f2,e1,e2]
  intro a b hn ha hb he;cases a with
  |ZL x=>
   cases b with
   |ZL y=>exact congrArg ZL (he (λ_=>ZQ))
   |ZM v l h=>exact (key v l h (ZL x) (by omega) hb trivial hb.1 (λc=>(he c).symm)).elim
  |ZM v l h=>
   by_cases h1:v<b.top
   ·exact (key v l h b hn ha hb h1 he).elim
   cases b with
   |ZL y=>exact (h1 ha.1).elim
   |ZM w l' h'=>
    simp only [top] at h1;by_cases h2:w<v
    ·exact (key w l' h' (ZM v l h) (by omega) hb ha h2 (λc=>(he c).symm)).elim
    obtain rfl:v=w:=by omega
    obtain ⟨h0,a1,a2,a3,a4,a5⟩:=ha;obtain ⟨_,b1,b2,b3,b4,b5⟩:=hb;simp only [sz] at hn;have e1:l=l':=ih l l' (by omega) a4 b4 λc=>by have:=he (c.set v ZQ);simp only [ev] at this;rw [Υ (by simp [Cf.set]),Υ (by simp [Cf.set]),lh a4 a1,lh b4 b1] at this;exact this
    have e2:h=h':=ih h h' (by omega) a5 b5 λc=>by have:=he (c.set v ZT);simp only [ev] at this;rw [Χ (by simp [Cf.set]),Χ (by simp [Cf.set]),lh a5 a2,lh b5 b2] at this;exact this
    rw [e1,e2]
theorem dI {a b:Tr} (ha:a.ok) (hb:b.ok) (he:∀c,a.ev c=b.ev c):a=b:=U6 _ a b (XS _) ha hb he
theorem DH {v:Nat} {l h:Tr} (hv:v<64) (h1:v<l.top) (h2:v<h.top) (h3:l.ok) (h4:h.ok):(mk v l h).ok:=by
 unfold mk;split
 ·exact h3
 ·rename_i hn;exact ⟨hv,h1,h2,hn,h3,h4⟩
theorem PV {v:Nat} {l h:Tr} (h1:v<l.top):v<=(mk v l h).top:=by
 unfold mk;split
 ·omega
 ·exact XS _
theorem Oy (v:Nat) (l h:Tr) (c:Cf):(mk v l h).ev c=if c v=ZT then h.ev c else l.ev c:=by
 unfold mk;split
 ·rename_i e;subst e;simp
 ·rfl
theorem cy {t:Tr} (h:t.ok) {v:Nat} (hv:v<=t.top):(lo v t).ok/\(v<64->v<(lo v t).top)/\(lo v t).sz<=t.sz/\(t.top=v->t.isL=ZQ->(lo v t).sz<t.sz)/\
  ∀c,c v=ZQ->(lo v t).ev c=t.ev c:=by
 cases t with
 |ZL b=>exact ⟨trivial,λh=>h,XS _,λ_ h=>(by cases h),λ_ _=>rfl⟩
 |ZM w l r=>
  obtain ⟨h0,h1,h2,h3,h4,h5⟩:=h;simp only [lo];split
  ·rename_i e;subst e;refine ⟨h4,λ_=>h1,by simp only [sz];omega,λ_ _=>by simp only [sz];omega,λc hc=> ?_⟩;simp [ev,hc]
  ·rename_i e;refine ⟨⟨h0,h1,h2,h3,h4,h5⟩,λ_=> ?_,XS _,λhe=> ?_,λ_ _=>rfl⟩
   ·simp only [top] at hv ⊢;omega
   ·simp only [top] at he;omega
theorem cz {t:Tr} (h:t.ok) {v:Nat} (hv:v<=t.top):(hi v t).ok/\(v<64->v<(hi v t).top)/\(hi v t).sz<=t.sz/\(t.top=v->t.isL=ZQ->(hi v t).sz<t.sz)/\
  ∀c,c v=ZT->(hi v t).ev c=t.ev c:=by
 cases t with
 |ZL b=>exact ⟨trivial,λh=>h,XS _,λ_ h=>(by cases h),λ_ _=>rfl⟩
 |ZM w l r=>
  obtain ⟨h0,h1,h2,h3,h4,h5⟩:=h;simp only [hi];split
  ·rename_i e;subst e;refine ⟨h5,λ_=>h2,by simp only [sz];omega,λ_ _=>by simp only [sz];omega,λc hc=> ?_⟩;simp [ev,hc]
  ·rename_i e;refine ⟨⟨h0,h1,h2,h3,h4,h5⟩,λ_=> ?_,XS _,λhe=> ?_,λ_ _=>rfl⟩
   ·simp only [top] at hv ⊢;omega
   ·simp only [top] at he;omega
abbrev Op3:=Bool->Bool->Bool->Bool
def be (a b d:Tr):Nat:=min (min a.top b.top) d.top
theorem U7 (o:Op3):∀(n:Nat) (a b d:Tr),a.sz+b.sz+d.sz<=n->a.ok->b.ok->d.ok->
  ∃t:Tr,t.ok/\be a b d<=t.top/\∀c,t.ev c=o (a.ev c) (b.ev c) (d.ev c):=by
 intro n;induction n with
 |zero=>intro a b d hn;have:=lf a;omega
 |succ n ih=>
  intro a b d hn ha hb hd;by_cases hv:be a b d<64
  ·have v1:be a b d<=a.top:=by unfold be;omega
   have v2:be a b d<=b.top:=by unfold be;omega
   have v3:be a b d<=d.top:=by unfold be;omega
   have hcase:be a b d=a.top\/be a b d=b.top\/be a b d=d.top:=by unfold be;omega
   revert hcase;revert v1 v2 v3 hv;generalize be a b d=v;intro hv v1 v2 v3 hcase;have nl:∀{t:Tr},v=t.top->t.isL=ZQ:=λ{t} e=>by
    cases t with
    |ZL b=>simp only [top] at e;omega
    |ZM _ _ _=>rfl
   obtain ⟨al1,al2,al3,al4,al5⟩:=cy ha v1;obtain ⟨bl1,bl2,bl3,bl4,bl5⟩:=cy hb v2;obtain ⟨dl1,dl2,dl3,dl4,dl5⟩:=cy hd v3;obtain ⟨ah1,ah2,ah3,ah4,ah5⟩:=cz ha v1;obtain ⟨bh1,bh2,bh3,bh4,bh5⟩:=cz hb v2;obtain ⟨dh1,dh2,dh3,dh4,dh5⟩:=cz hd v3;have hsl:(lo v a).sz+(lo v b).sz+(lo v d).sz<=n:=by
    rcases hcase with e|e|e
    ·have:=al4 e.symm (nl e);omega
    ·have:=bl4 e.symm (nl e);omega
    ·have:=dl4 e.symm (nl e);omega
   have hsh:(hi v a).sz+(hi v b).sz+(hi v d).sz<=n:=by
    rcases hcase with e|e|e
    ·have:=ah4 e.symm (nl e);omega
    ·have:=bh4 e.symm (nl e);omega
    ·have:=dh4 e.symm (nl e);omega
   obtain ⟨tl,l1,l2,l3⟩:=ih _ _ _ hsl al1 bl1 dl1;obtain ⟨th,h1,h2,h3⟩:=ih _ _ _ hsh ah1 bh1 dh1;have l2':v<tl.top:=by have:=al2 hv;have:=bl2 hv;have:=dl2 hv;unfold be at l2;omega
   have h2':v<th.top:=by have:=ah2 hv;have:=bh2 hv;have:=dh2 hv;unfold be at h2;omega
   refine ⟨mk v tl th,DH hv l2' h2' l1 h1,PV l2',λc=> ?_⟩;rw [Oy];split
   ·rename_i hc;rw [h3,ah5 c hc,bh5 c hc,dh5 c hc]
   ·rename_i hc;have hc:c v=ZQ:=by simpa using hc
    rw [l3,al5 c hc,bl5 c hc,dl5 c hc]
  ·have isl:∀{t:Tr},t.ok->64<=t.top->∃b,t=ZL b:=λ{t} ht h64=>by
    cases t with
    |ZL b=>exact ⟨b,rfl⟩
    |ZM _ _ _=>have:=ht.1;simp only [top] at h64;omega
   unfold be at hv;obtain ⟨x,rfl⟩:=isl ha (by omega);obtain ⟨y,rfl⟩:=isl hb (by omega);obtain ⟨z,rfl⟩:=isl hd (by omega);exact ⟨ZL (o x y z),trivial,by simp [be,top],λc=>rfl⟩
noncomputable def can (f:Cf->Bool):Tr:=open Classical in if h:∃t:Tr,t.ok/\∀c,t.ev c=f c then h.choose else ZL ZQ
theorem xg {f:Cf->Bool} {t:Tr} (h:t.ok) (he:∀c,t.ev c=f c):can f=t:=by have hx:∃t:Tr,t.ok/\∀c,t.ev c=f c:=⟨t,h,he⟩;unfold can;rw [dif_pos hx];exact dI hx.choose_spec.1 h λc=>(hx.choose_spec.2 c).trans (he c).symm
noncomputable def ap (o:Op3) (a b d:Tr):Tr:=can λc=>o (a.ev c) (b.ev c) (d.ev c)
section
variable {o:Op3} {a b d:Tr} (ha:a.ok) (hb:b.ok) (hd:d.ok)
include ha hb hd
theorem fG:(ap o a b d).ok/\be a b d<=(ap o a b d).top/\∀c,(ap o a b d).ev c=o (a.ev c) (b.ev c) (d.ev c):=by obtain ⟨t,h1,h2,h3⟩:=U7 o _ a b d (XS _) ha hb hd;have:ap o a b d=t:=xg h1 h3;rw [this];exact ⟨h1,h2,h3⟩
theorem Iq:(ap o a b d).ok:=(fG ha hb hd).1
theorem xh (hv:be a b d<64):ap o a b d=mk (be a b d) (ap o (lo (be a b d) a) (lo (be a b d) b) (lo (be a b d) d)) (ap o (hi (be a b d) a) (hi (be a b d) b) (hi (be a b d) d)):=by
 have v1:be a b d<=a.top:=by unfold be;omega
 have v2:be a b d<=b.top:=by unfold be;omega
 have v3:be a b d<=d.top:=by unfold be;omega
 revert v1 v2 v3 hv;generalize be a b d=v;intro hv v1 v2 v3;obtain ⟨al1,al2,al3,al4,al5⟩:=cy ha v1;obtain ⟨bl1,bl2,bl3,bl4,bl5⟩:=cy hb v2;obtain ⟨dl1,dl2,dl3,dl4,dl5⟩:=cy hd v3;obtain ⟨ah1,ah2,ah3,ah4,ah5⟩:=cz ha v1;obtain ⟨bh1,bh2,bh3,bh4,bh5⟩:=cz hb v2;obtain ⟨dh1,dh2,dh3,dh4,dh5⟩:=cz hd v3;obtain ⟨l1,l2,l3⟩:=fG (o:=o) al1 bl1 dl1;obtain ⟨h1,h2,h3⟩:=fG (o:=o) ah1 bh1 dh1;have l2':v<(ap o (lo v a) (lo v b) (lo v d)).top:=by have:=al2 hv;have:=bl2 hv;have:=dl2 hv;unfold be at l2;omega
 have h2':v<(ap o (hi v a) (hi v b) (hi v d)).top:=by have:=ah2 hv;have:=bh2 hv;have:=dh2 hv;unfold be at h2;omega
 refine xg (DH hv l2' h2' l1 h1) λc=> ?_;rw [Oy];split
 ·rename_i hc;rw [h3,ah5 c hc,bh5 c hc,dh5 c hc]
 ·rename_i hc;have hc:c v=ZQ:=by simpa using hc
  rw [l3,al5 c hc,bl5 c hc,dl5 c hc]
end
theorem mX (o:Op3) (x y z:Bool):ap o (ZL x) (ZL y) (ZL z)=ZL (o x y z):=xg trivial λ_=>rfl
theorem gK {t:Tr} (ht:t.ok) (h64:64<=t.top):∃b,t=ZL b:=by
 cases t with
 |ZL b=>exact ⟨b,rfl⟩
 |ZM _ _ _=>have:=ht.1;simp only [top] at h64;omega
end Tr
open Tr
structure Br where
 v:Int
 l:Int
 h:Int
deriving DecidableEq
def inn (S:List Tr) (t:Tr):Prop:=t.isL=ZT\/t∈S
def num (S:List Tr):Tr->Nat
 |ZL b=>if b then 1 else 0
 |ZM v l h=>S.idxOf (ZM v l h)+2
def br (S:List Tr):Tr->Br
 |ZL _=>⟨0,0,0⟩
 |ZM v l h=>⟨(v:Int),(num S l:Int),(num S h:Int)⟩
def brs (S:List Tr):List Br:=S.map (br S)
inductive Cl:List Tr->Prop
 |nil:Cl []
 |snoc {S:List Tr} {v:Nat} {l h:Tr}:Cl S->inn S l->inn S h->(ZM v l h).ok->ZM v l h ∉ S->Cl (S++[ZM v l h])
theorem cd {S X:List Tr} {t:Tr} (h:inn S t):inn (S++X) t:=h.imp id λh=>Zb X h
theorem gp (S:List Tr) (b:Bool):inn S (ZL b):=.inl rfl
theorem cS {S:List Tr} {t:Tr} (h:inn S t) (hn:t.isL=ZQ):t∈S:=h.resolve_left (by rw [hn];exact Y8)
theorem bT {S X:List Tr} {t:Tr} (h:inn S t):num (S++X) t=num S t:=by
 cases t with
 |ZL b=>rfl
 |ZM v l r=>have hm:=cS h rfl;simp only [num,List.idxOf_append,hm,if_true]
namespace Cl
theorem mem {S:List Tr} (h:Cl S):∀t∈S,t.ok/\∃v l r,t=ZM v l r/\inn S l/\inn S r:=by
 induction h with
 |nil=>intro t ht;cases ht
 | @snoc S v l r hS hl hr hk hn ih=>
  intro t ht;rcases XR.1 ht with ht|ht
  ·obtain ⟨h1,v',l',r',h2,h3,h4⟩:=ih t ht;exact ⟨h1,v',l',r',h2,cd h3,cd h4⟩
  ·obtain rfl:=XO.1 ht;exact ⟨hk,v,l,r,rfl,cd hl,cd hr⟩
theorem nodup {S:List Tr} (h:Cl S):S.Nodup:=by
 induction h with
 |nil=>exact List.nodup_nil
 | @snoc S v l r hS hl hr hk hn ih=>rw [Ye];refine ⟨ih,by simp,?_⟩;intro a ha b hb;rw [XO] at hb;subst hb;rintro rfl;exact hn ha
theorem inn_ok {S:List Tr} (h:Cl S) {t:Tr} (ht:inn S t):t.ok:=by
 cases t with
 |ZL b=>trivial
 |ZM v l r=>exact (h.mem _ (cS ht rfl)).1
theorem inn_kids {S:List Tr} (h:Cl S) {v:Nat} {l r:Tr} (ht:inn S (ZM v l r)):inn S l/\inn S r:=by obtain ⟨_,v',l',r',e,h3,h4⟩:=h.mem _ (cS ht rfl);cases e;exact ⟨h3,h4⟩
theorem inn_lo {S:List Tr} (h:Cl S) {t:Tr} (ht:inn S t) (v:Nat):inn S (lo v t):=by
 cases t with
 |ZL b=>exact ht
 |ZM w l r=>
  simp only [lo];split
  ·exact (h.inn_kids ht).1
  ·exact ht
theorem inn_hi {S:List Tr} (h:Cl S) {t:Tr} (ht:inn S t) (v:Nat):inn S (hi v t):=by
 cases t with
 |ZL b=>exact ht
 |ZM w l r=>
  simp only [hi];split
  ·exact (h.inn_kids ht).2
  ·exact ht
end Cl
theorem ff {S:List Tr} {t:Tr} (h:inn S t):num S t<=S.length+1:=by
 cases t with
 |ZL b=>simp only [num];split<;>omega
 |ZM v l r=>have:=List.idxOf_lt_length_of_mem (cS h rfl);simp only [num];omega
theorem eF {S:List Tr} {t:Tr} (h:t.isL=ZQ):2<=num S t:=by
 cases t with
 |ZL b=>cases h
 |ZM v l r=>simp only [num];omega
theorem qD {S:List Tr} {t:Tr} (h:num S t<2):t.isL=ZT:=by
 cases t with
 |ZL b=>rfl
 |ZM v l r=>simp only [num] at h;omega
theorem dJ (S:List Tr) (b:Bool):num S (ZL b)<=1:=by simp only [num];split<;>omega
theorem f8 {S:List Tr} {t:Tr} (h:t∈S) (hl:t.isL=ZQ):S[num S t - 2]? =ZO t:=by
 cases t with
 |ZL b=>cases hl
 |ZM v l r=>have h1:=List.idxOf_lt_length_of_mem h;simp only [num,Nat.add_sub_cancel];rw [N6 h1,List.getElem_idxOf]
theorem cT {S:List Tr} {t u:Tr} (ht:inn S t) (hu:inn S u) (h:num S t=num S u):t=u:=by
 cases ht':t.isL with
 |true=>
  cases hu':u.isL with
  |true=>
   cases t with
   |ZM _ _ _=>cases ht'
   |ZL a=>
    cases u with
    |ZM _ _ _=>cases hu'
    |ZL b=>simp only [num] at h;cases a<;>cases b<;>simp at h ⊢
  |false=>
   have h1:=eF (S:=S) hu';cases t with
   |ZM _ _ _=>cases ht'
   |ZL a=>have h2:num S (ZL a)<=1:=dJ S a;omega
 |false=>
  cases hu':u.isL with
  |true=>
   have h1:=eF (S:=S) ht';cases u with
   |ZM _ _ _=>cases hu'
   |ZL a=>have h2:num S (ZL a)<=1:=dJ S a;omega
  |false=>have h1:=f8 (cS ht ht') ht';have h2:=f8 (cS hu hu') hu';rw [h,h2] at h1;exact (Yh h1).symm
theorem eG {S:List Tr} (hS:Cl S) {k:Nat} {t:Tr} (h:S[k]? =ZO t):num S t=k+2:=by
 have hk:k<S.length:=(XN.1 h).1;have hm:t∈S:=XQ h;obtain ⟨_,v,l,r,rfl,_⟩:=hS.mem t hm;have h1:=List.idxOf_lt_length_of_mem hm;have h2:S[S.idxOf (ZM v l r)]=S[k]:=by rw [List.getElem_idxOf];exact (XN.1 h).2.symm
 have:=(List.getElem_inj hS.nodup).1 h2;simp only [num];omega
def tr (S:List Tr) (n:Nat):Tr:=
 if n=0 then ZL ZQ else if n=1 then ZL ZT else S.getD (n - 2) (ZL ZQ)
theorem gT {S:List Tr} {n:Nat} (h:n<=S.length+1):inn S (tr S n):=by
 unfold tr;split
 ·exact gp _ _
 ·split
  ·exact gp _ _
  ·refine .inr ?_;rw [Yg,N6 (by omega)];exact YM _
theorem gq {S:List Tr} (hS:Cl S) {n:Nat} (h:n<=S.length+1):num S (tr S n)=n:=by
 unfold tr;split
 ·rename_i e;subst e;rfl
 ·split
  ·rename_i e;subst e;rfl
  ·have hk:n - 2<S.length:=by omega
   have:=eG hS (k:=n - 2) (t:=S[n - 2]) (N6 hk);rw [Yg,N6 hk];simp only [Option.getD_some];omega
theorem oa {S:List Tr} (hS:Cl S) {t:Tr} (h:inn S t):tr S (num S t)=t:=
 cT (gT (ff h)) h (gq hS (ff h))
theorem E8 {S X:List Tr} (hS:Cl S) {t:Tr} (h:t∈S):br (S++X) t=br S t:=by obtain ⟨_,v,l,r,rfl,hl,hr⟩:=hS.mem t h;simp only [br,bT hl,bT hr]
theorem tq {S X:List Tr} (hS:Cl S):brs (S++X)=brs S++X.map (br (S++X)):=by unfold brs;rw [Yd];congr 1;exact YR λt ht=>E8 hS ht
theorem eS {S:List Tr} (hS:Cl S) {v:Nat} {l r:Tr} (hl:inn S l) (hr:inn S r):brs (S++[ZM v l r])=brs S++[⟨(v:Int),(num S l:Int),(num S r:Int)⟩]:=by rw [tq hS];simp only [Yf,List.map_nil,br,bT hl,bT hr]
theorem aP (S:List Tr):(brs S).length=S.length:=by simp [brs]
theorem qE {S:List Tr} {k:Nat} {t:Tr} (h:S[k]? =ZO t):(brs S)[k]? =ZO (br S t):=by simp [brs,h]
theorem Ir {S:List Tr} (hS:Cl S) {t u:Tr} (ht:t∈S) (hu:u∈S) (h:br S t=br S u):t=u:=by obtain ⟨_,v,l,r,rfl,hl,hr⟩:=hS.mem t ht;obtain ⟨_,v',l',r',rfl,hl',hr'⟩:=hS.mem u hu;simp only [br,Br.mk.injEq] at h;obtain ⟨h1,h2,h3⟩:=h;rw [cT hl hl' (by omega),cT hr hr' (by omega),show v=v' by omega]
theorem qF {S T:List Tr} (hS:Cl S):Cl T->brs S=brs T->S=T:=by
 intro hT;induction hS generalizing T with
 |nil=>
  intro h;cases T with
  |nil=>rfl
  |cons a b=>have:=congrArg List.length h;simp [brs] at this
 | @snoc S v l r hS hl hr hk hn ih=>
  intro h;cases hT with
  |nil=>have:=congrArg List.length h;simp [brs] at this
  | @snoc T v' l' r' hT hl' hr' hk' hn'=>rw [eS hS hl hr,eS hT hl' hr'] at h;obtain ⟨h1,h2⟩:=List.append_inj' h rfl;obtain rfl:=ih hT h1;simp only [List.cons.injEq,Br.mk.injEq,and_true] at h2;obtain ⟨h3,h4,h5⟩:=h2;rw [cT hl hl' (by omega),cT hr hr' (by omega),show v=v' by omega]
def vis:Tr->List Tr->List Tr
 |ZL _,S=>S
 |ZM v l h,S=>if ZM v l h∈S then S else vis h (vis l S)++[ZM v l h]
theorem gL {S:List Tr} {t:Tr} (h:inn S t):vis t S=S:=by
 cases t with
 |ZL b=>rfl
 |ZM v l r=>unfold vis;rw [Χ (cS h rfl)]
theorem bD:∀(t:Tr) (S:List Tr),t.ok->Cl S->Cl (vis t S)/\inn (vis t S) t/\(∃X,vis t S=S++X/\∀x∈X,x.sz<=t.sz)
 |ZL b,S,_,hS=>⟨hS,gp _ _,[],by simp [vis],λx h=>by cases h⟩
 |ZM v l r,S,hk,hS=>by
  unfold vis;split
  ·rename_i hm;exact ⟨hS,.inr hm,[],by simp,λx h=>by cases h⟩
  ·rename_i hm;obtain ⟨h1,h2,X,h3,h4⟩:=bD l S hk.2.2.2.2.1 hS;obtain ⟨g1,g2,Y,g3,g4⟩:=bD r (vis l S) hk.2.2.2.2.2 h1;have hn:ZM v l r ∉ vis r (vis l S):=by
    rw [g3,h3];intro hc;rcases XR.1 hc with hc|hc
    ·rcases XR.1 hc with hc|hc
     ·exact hm hc
     ·have:=h4 _ hc;simp only [sz] at this;omega
    ·have:=g4 _ hc;simp only [sz] at this;omega
   refine ⟨.snoc g1 (by rw [g3];exact cd h2) g2 hk hn,.inr (by simp),X++Y++[ZM v l r],by rw [g3,h3];simp,λx hx=> ?_⟩;simp only [XR,XO,or_assoc] at hx;rcases hx with hx|hx|hx
   ·have:=h4 x hx;simp only [sz];omega
   ·have:=g4 x hx;simp only [sz];omega
   ·rw [hx];exact XS _
def bo (t:Tr):List Tr:=vis t []
theorem bI {t:Tr} (h:t.ok):Cl (bo t):=(bD t [] h .nil).1
theorem bY {t:Tr} (h:t.ok):inn (bo t) t:=(bD t [] h .nil).2.1
abbrev Dia:=List Br×Int
def dia (t:Tr):Dia:=(brs (bo t),(num (bo t) t:Int))
theorem mY {t u:Tr} (ht:t.ok) (hu:u.ok) (h:dia t=dia u):t=u:=by unfold dia at h;simp only [ZF] at h;obtain ⟨h1,h2⟩:=h;have h3:=qF (bI ht) (bI hu) h1;rw [<- h3] at h2;refine cT (bY ht) ?_ (by omega);rw [h3];exact bY hu
def cnt:Tr->Nat
 |ZL _=>0
 |ZM _ l h=>cnt l+cnt h+1
theorem lj:∀(t:Tr) (S:List Tr),(vis t S).length<=S.length+cnt t
 |ZL _,_=>XS _
 |ZM v l r,S=>by
  unfold vis;split
  ·omega
  ·have h1:=lj l S;have h2:=lj r (vis l S);simp only [XT,X3,cnt];omega
theorem oX (t:Tr):(bo t).length<=cnt t:=by have:=lj t [];simpa [bo] using this
open Go.Proofs.Tryz
theorem sz3:tsz prog 3=ZO (1,8):=by kernel_rfl
theorem sz9:tsz prog 9=ZO (1,16):=by kernel_rfl
theorem PX:tsz prog 31=ZO (2,32):=by kernel_rfl
theorem Xj:tsz prog 39=ZO (1,24):=by kernel_rfl
theorem U8:tsz prog 55=ZO (13,160):=by kernel_rfl
theorem U9:tsz prog 63=ZO (2,16):=by kernel_rfl
theorem Xk:tsz prog 69=ZO (4,64):=by kernel_rfl
theorem yU:tsz prog 124=ZO (3,24):=by kernel_rfl
theorem Va:tsz prog 146=ZO (7,112):=by kernel_rfl
theorem Vb:tsz prog 156=ZO (9,104):=by kernel_rfl
theorem Oz:tsz prog 215=ZO (3,24):=by kernel_rfl
theorem zr3:bP prog 3=ZO (Value.int .i64 0):=by kernel_rfl
theorem zr9:bP prog 9=ZO (Value.string ⟨#[]⟩):=by kernel_rfl
theorem Is:bP prog 31=ZO (Value.agg (#[Value.slice ZR 0 0,Value.int .i64 0])):=by kernel_rfl
theorem Xl:bP prog 39=ZO (Value.slice ZR 0 0):=by kernel_rfl
theorem Vc:bP prog 55=ZO (Value.agg (#[Value.string ⟨#[]⟩,Value.int .i64 0,Value.slice ZR 0 0,Value.slice ZR 0 0,Value.int .i64 0,Value.bool ZQ,Value.int .i64 0,Value.slice ZR 0 0,Value.bool ZQ,Value.int .i64 0,Value.int .i64 0,Value.int .i64 0,Value.int .i64 0])):=by kernel_rfl
theorem Vd:bP prog 63=ZO (Value.agg (#[Value.bool ZQ,Value.int .i64 0])):=by kernel_rfl
theorem Xm:bP prog 69=ZO (Value.agg (#[Value.slice ZR 0 0,Value.int .i64 0,Value.slice ZR 0 0,Value.int .i64 0])):=by kernel_rfl
theorem yV:bP prog 124=ZO (Value.agg (#[Value.int .i64 0,Value.int .i64 0,Value.int .i64 0])):=by kernel_rfl
theorem Ve:bP prog 146=ZO (Value.agg (#[Value.string ⟨#[]⟩,Value.int .i64 0,Value.string ⟨#[]⟩,Value.slice ZR 0 0,Value.string ⟨#[]⟩,Value.slice ZR 0 0,Value.int .i64 0])):=by kernel_rfl
theorem Vf:bP prog 156=ZO (Value.agg (#[Value.int .i64 0,Value.int .i64 0,Value.int .i64 0,Value.int .i64 0,Value.int .i64 0,Value.int .i64 0,Value.slice ZR 0 0,Value.slice ZR 0 0,Value.int .i64 0])):=by kernel_rfl
theorem OA:bP prog 215=ZO (Value.agg (#[Value.int .i64 0,Value.int .i64 0,Value.int .i64 0])):=by kernel_rfl
section
variable {P:Program} {n:Nat} {Q:Exit->En->PH->Prop} {E:En} {F:PH} {ops:Array Oper} {l:List Oper} {d:Tmp} {op:Op} {ty:TypeId} {pos:String} {aft:Array Edge} {gd:Option (Nat×Bool)}
theorem Xn {fn:Func} {r r' r'' r3:ResultVar} {v v' v'' v3:Value} (h:fn.results= #[r,r',r'',r3]) (hv:kZ P E F r v) (hv':kZ P E F r' v') (hv'':kZ P E F r'' v'') (hv3:kZ P E F r3 v3):sW P fn E F (.tuple #[v,v',v'',v3]):=λe w tmps st ht=>by have k:=gS hv st ht;have k':=gS hv' st ht;have k'':=gS hv'' st ht;have k3:=gS hv3 st ht;clear ht hv hv' hv'' hv3;rcases k with ⟨t,rfl,h1⟩|⟨x,t,a,rfl,h1,h2⟩<;>rcases k' with ⟨t',rfl,h3⟩|⟨x',t',a',rfl,h3,h4⟩<;>rcases k'' with ⟨t'',rfl,h5⟩|⟨x'',t'',a'',rfl,h5,h6⟩<;>rcases k3 with ⟨t3,rfl,h7⟩|⟨x3,t3,a3,rfl,h7,h8⟩<;>simp [results,asAddr, *]
end
section
variable {P:Program} {F:PH} {E:En} {o:Oper} {x y:Operand} {t t':TypeId}
theorem PY {c d:ByteArray} (ho:o.op=.binOp .add t x y t') (hx:ev E x=.string c) (hy:ev E y=.string d) (h:c.size+d.size<=9223372036854775807):RD P E F o (.string (c++d)):=by
 have e:IntKind.i64.max=9223372036854775807:=by decide
 have hn:¬(((c.size+d.size:Nat):Int)>IntKind.i64.max):=by rw [e];omega
 simp only [RD,execOp,ho,hx,hy,ak];refine ⟨.string (c++d),⟨(),cn rfl,?_⟩,rfl⟩;show rdo P (Op.stringOp .add c d) F _;unfold Op.stringOp;simp only [Υ hn];rfl
theorem PZ {c d:ByteArray} (ho:o.op=.binOp .lss t x y t') (hx:ev E x=.string c) (hy:ev E y=.string d):RD P E F o (.bool (Op.bytesLess c.toList d.toList)):=by simp only [RD,execOp,ho,hx,hy,ak];exact ⟨_,⟨(),cn rfl,rfl⟩,rfl⟩
theorem P0 {c d:ByteArray} (ho:o.op=.binOp .geq t x y t') (hx:ev E x=.string c) (hy:ev E y=.string d):RD P E F o (.bool (!Op.bytesLess c.toList d.toList)):=by simp only [RD,execOp,ho,hx,hy,ak];exact ⟨_,⟨(),cn rfl,rfl⟩,rfl⟩
theorem It {e:TypeId} {v:Value} {s:ByteArray} (ho:o.op=.convert t t' x) (hx:ev E x=v) (h1:P.underlying t=ZO (.slice e)) (h2:P.underlying t'=ZO .string) (h3:P.underlying e=ZO (.int .u8))
  (hv:∃b l c,v=.slice b l c) (h:rdo P (Conv.bytesToString v) F (.string s)):RD P E F o (.string s):=by
 obtain ⟨b,l,c,rfl⟩:=hv;simp only [RD,execOp,ho,hx,ak,convert];refine ⟨_,⟨_,(az h1 _).2 rfl,_,(az h2 _).2 rfl,?_⟩,rfl⟩;cases b<;>(simp only [ak];exact ⟨_,(az h3 _).2 rfl,h⟩)
variable {K:En->PH->Prop} {d:Tmp} {ty:TypeId} {pos:String} {aft:Array Edge} {gd:Option (Nat×Bool)}
theorem Iu {m:Option Nat} {r:Value} (ho:o.op=.call {callee:=.builtin .len,args:= #[x],argTypes:= #[t]}) (hx:ev E x=.map m) (h:rdo P (Builtin.len_ #[t] o.type #[.map m]) F r):RD P E F o r:=by simp [RD,execOp,ho,resolve,invoke,builtin,hx];exact h
theorem LF {v r:Value} (ho:o.op=.entry x) (hx:ev E x=v) (h:rdo P (Instr.entry v) F r):RD P E F o r:=by simp only [RD,execOp,ho,hx,ak];exact ⟨_,h,rfl⟩
end
abbrev VR:=Value->PH->Prop
abbrev sto (F:PH) (a:Addr) (v:Value) (K:PH->Prop):Prop:=
 ∃c e,F a.block=ZO (ZP c e (0,0))/\a.spot=ZR/\a.off<c.size/\atF (F.set a.block (ZP (c.setIfInBounds a.off v) e)) K
abbrev aw (F:PH) (a:Addr) (n:Nat) (v:Array Value) (K:PH->Prop):Prop:=
 v.size=n/\(∀x∈v.toList,am x)/\∃c e,F a.block=ZO (ZP c e (0,0))/\a.spot=ZR/\a.off+n<=c.size/\atF (F.set a.block (ZP (wr c a.off v.toList) e)) K
namespace Rx
inductive Kd|int (k:IntKind)|bool|ptr|sl|str|map|agg|any
def Kd.T:Kd->Type
 | .int _=>Int| .bool=>Bool| .ptr=>Option Addr| .sl=>Sl| .str=>ByteArray| .map=>Option Nat| .agg=>Array Value| .any=>Value
def Kd.v:(k:Kd)->k.T->Value
 | .int k,x=> .int k x| .bool,b=> .bool b| .ptr,p=> .pointer p| .sl,s=>Sl.v s| .str,s=> .string s| .map,m=> .map m| .agg,c=> .agg c| .any,v=>v
def kdD:TypeDesc->Kd
 | .int k=> .int k| .bool=> .bool| .string=> .str| .pointer _=> .ptr| .slice _=> .sl| .map _ _=> .map| .struct _=> .agg| .array _ _=> .agg|_=> .any
def kd (P:Program) (t:TypeId):Kd:=match P.underlying t with|some d=>kdD d|none=> .any
inductive SV|c (v:Value)|any (v:Value)|ad (a:Addr)|lit (b:Bool)|vt (w:Array Value)|und|ref (i:Nat)|unk
inductive SB|bool (b:Bool)|prp (p:Prop) (d:Decidable p)|lit (b:Bool)|ptr (p:Option Addr)|ad (a:Addr)
def SB.v:SB->Value
 | .bool b=> .bool b| .prp p d=> .bool (@decide p d)| .lit b=> .bool b| .ptr p=> .pointer p| .ad a=> .pointer (ZO a)
inductive VW|c (v:Value)|any (v:Value)|ad (a:Addr)|lit (b:Bool)|vt (w:Array Value)|und|bool (i:Nat) (b:Bool)|prp (i:Nat) (p:Prop) (d:Decidable p)|ptr (i:Nat) (p:Option Addr)|unk
def SB.vw (i:Nat):SB->VW
 | .bool b=> .bool i b| .prp p d=> .prp i p d| .lit b=> .lit b| .ptr p=> .ptr i p| .ad a=> .ad a
def SV.vw (T:Nat->Option SB):SV->VW
 | .c v=> .c v| .any v=> .any v| .ad a=> .ad a| .lit b=> .lit b| .vt w=> .vt w| .und=> .und
 | .ref i=>(match T i with|some s=>s.vw i|none=> .unk)
 | .unk=> .unk
def VW.val:VW->Option Value
 | .c v=>ZO v| .any v=>ZO v| .ad a=>ZO (.pointer (ZO a))| .lit b=>ZO (.bool b)| .vt w=>ZO (.tuple w)| .und=>ZO undef
 | .bool _ b=>ZO (.bool b)| .prp _ p d=>ZO (.bool (@decide p d))| .ptr _ p=>ZO (.pointer p)| .unk=>ZR
structure Sy where
 S:Nat->SV
 T:Nat->Option SB
 n:Nat
def up {α:Type} (f:Nat->α) (d:Nat) (x:α):Nat->α:=λt=>bif Nat.beq t d then x else f t
def Vg:Value->SV
 | .bool b=> .lit b|v=> .c v
def Sy.cp (σ:Sy):Operand->SV
 | .tmp t=>σ.S t| .const v=>Vg v| .global g=> .ad ⟨g,0,ZR⟩| .func f=> .c (.func (.func f) #[] #[])
def Sy.ov (σ:Sy) (x:Operand):VW:=(σ.cp x).vw σ.T
def Sy.vw (σ:Sy) (t:Nat):VW:=(σ.S t).vw σ.T
inductive NV|sv (s:SV)|nb (b:SB)
def Sy.put (σ:Sy) (d:Nat):NV->Sy
 | .sv s=>⟨up σ.S d s,σ.T,σ.n⟩
 | .nb b=>⟨up σ.S d (.ref σ.n),up σ.T σ.n (ZO b),σ.n+1⟩
def Sy.putO (σ:Sy):Option Tmp->NV->Sy
 |some d,v=>σ.put d v
 |none,_=>σ
def Sy.rf (σ:Sy) (i:Nat) (b:SB):Sy:=⟨σ.S,up σ.T i (ZO b),σ.n⟩
def Kd.nv:(k:Kd)->k.T->NV
 | .int k,x=> .sv (.c (.int k x))| .bool,b=> .nb (.bool b)| .ptr,p=> .nb (.ptr p)| .sl,s=> .sv (.c (Sl.v s))| .str,s=> .sv (.c (.string s))| .map,m=> .sv (.c (.map m))| .agg,c=> .sv (.c (.agg c))| .any,v=> .sv (.any v)
def ofk:Kd->Value->NV
 | .any,v=> .sv (.any v)
 | .bool,v=>(match v with| .bool b=> .nb (.bool b)|_=> .sv .unk)
 | .ptr,v=>(match v with| .pointer p=> .nb (.ptr p)|_=> .sv .unk)
 |_,v=> .sv (.c v)
def pk:List Nat->Nat->Bool
 |[],_=>ZQ
 |x::l,t=>bif Nat.beq t x then ZT else pk l t
def Sy.hav (σ:Sy) (M:List Nat):Sy:=⟨λt=>bif pk M t then .unk else σ.S t,σ.T,σ.n⟩
def sxA (σ:Sy) (x:Operand) (K:Sy->Addr->Prop):Prop:=
 match σ.ov x with
 | .ad a=>K σ a
 | .ptr i p=>∃a:Addr,p=ZO a/\K (σ.rf i (.ad a)) a
 | .c (.pointer (ZO a))=>K σ a
 |_=>False
def xj (σ:Sy):List Operand->(List Value->Prop)->Prop
 |[],K=>K []
 |x::l,K=>match (σ.ov x).val with|some v=>xj σ l (λus=>K (v::us))|none=>False
abbrev RK:=Sy->NV->Option (PH->Prop)->Prop
def okN (b:Bool) (K:Prop):Prop:=match b with|true=>K|false=>False
def sxI (op:BinOp) (k:IntKind) (a b:Int) (lit:Bool) (K:NV->Prop):Prop:=
 match op with
 | .add=>K (.sv (.c (.int k (k.wrap (a+b)))))
 | .sub=>K (.sv (.c (.int k (k.wrap (a - b)))))
 | .mul=>K (.sv (.c (.int k (k.wrap (a*b)))))
 | .quo=>(match lit with|true=>(match decide (b≠0) with|true=>K (.sv (.c (.int k (k.wrap (Int.tdiv a b)))))|false=>False)|false=>b≠0/\K (.sv (.c (.int k (k.wrap (Int.tdiv a b))))))
 | .rem=>(match lit with|true=>(match decide (b≠0) with|true=>K (.sv (.c (.int k (Int.tmod a b))))|false=>False)|false=>b≠0/\K (.sv (.c (.int k (Int.tmod a b)))))
 | .and=>K (.sv (.c (.int k (k.wrap ((BitVec.ofInt k.bits a &&& BitVec.ofInt k.bits b).toNat)))))
 | .or=>K (.sv (.c (.int k (k.wrap ((BitVec.ofInt k.bits a ||| BitVec.ofInt k.bits b).toNat)))))
 | .xor=>K (.sv (.c (.int k (k.wrap ((BitVec.ofInt k.bits a ^^^ BitVec.ofInt k.bits b).toNat)))))
 | .andNot=>K (.sv (.c (.int k (k.wrap ((BitVec.ofInt k.bits a &&& ~~~ BitVec.ofInt k.bits b).toNat)))))
 | .lss=>K (.nb (.prp (a<b) inferInstance))
 | .leq=>K (.nb (.prp (a<=b) inferInstance))
 | .gtr=>K (.nb (.prp (b<a) inferInstance))
 | .geq=>K (.nb (.prp (b<=a) inferInstance))
 | .eql=>K (.nb (.prp (a=b) inferInstance))
 | .neq=>K (.nb (.prp (a≠b) inferInstance))
 |_=>False
def sxH (op:BinOp) (k:IntKind) (a b:Int) (lit:Bool) (K:NV->Prop):Prop:=
 match op with
 | .shl=>(match lit with|true=>(match decide (0<=b) with|true=>K (.sv (.c (.int k (k.wrap (a*2 ^ (min b.toNat k.bits))))))|false=>False)|false=>0<=b/\K (.sv (.c (.int k (k.wrap (a*2 ^ (min b.toNat k.bits)))))))
 | .shr=>(match lit with|true=>(match decide (0<=b) with|true=>K (.sv (.c (.int k (a.fdiv (2 ^ (min b.toNat k.bits))))))|false=>False)|false=>0<=b/\K (.sv (.c (.int k (a.fdiv (2 ^ (min b.toNat k.bits)))))))
 |_=>False
def LH:BinOp->Bool
 | .shl=>ZT| .shr=>ZT|_=>ZQ
def xk:Operand->Bool
 | .const _=>ZT|_=>ZQ
def VW.tv:VW->Option Bool
 | .lit b=>ZO b| .bool _ b=>ZO b| .prp _ p d=>ZO (@decide p d)|_=>ZR
def Iv (P:Program) (σ:Sy) (op:BinOp) (t:TypeId) (x y:Operand) (K:NV->Prop):Prop:=
 match σ.ov x,σ.ov y with
 | .c (.int k a),.c (.int k' b)=>(match LH op with|true=>sxH op k a b (xk y) K|false=>(match decide (k=k') with|true=>sxI op k a b (xk y) K|false=>False))
 | .c (.string c),.c (.string d)=>(match op with
  | .add=>c.size+d.size<=9223372036854775807/\K (.sv (.c (.string (c++d))))
  | .lss=>K (.nb (.bool (Op.bytesLess c.toList d.toList)))
  | .geq=>K (.nb (.bool (!Op.bytesLess c.toList d.toList)))
  | .eql=>K (.nb (.bool (c.toList==d.toList)))
  | .neq=>K (.nb (.bool (!(c.toList==d.toList))))
  |_=>False)
 | .ad _,.c (.pointer ZR)=>(match P.underlying t,op with|some (.pointer _),.eql=>K (.sv (.lit ZQ))|some (.pointer _),.neq=>K (.sv (.lit ZT))|_,_=>False)
 | .ptr _ p,.c (.pointer ZR)=>(match P.underlying t,op with|some (.pointer _),.eql=>K (.nb (.bool p.isNone))|some (.pointer _),.neq=>K (.nb (.bool (!p.isNone)))|_,_=>False)
 | .c (.slice b _ _),.c (.slice ZR 0 0)=>(match P.underlying t,op with|some (.slice _),.eql=>K (.nb (.bool b.isNone))|some (.slice _),.neq=>K (.nb (.bool (!b.isNone)))|_,_=>False)
 | .c (.agg c),.c (.agg d)=>(match P.eqGuardType P.depth t,op with
  |false,.eql=>∃v:Bool,(∀F,rdo P (Op.equal t (.agg c) (.agg d)) F v)/\K (.nb (.bool v))
  |false,.neq=>∃v:Bool,(∀F,rdo P (Op.equal t (.agg c) (.agg d)) F v)/\K (.nb (.bool (!v)))
  |_,_=>False)
 |u,w=>(match P.underlying t,u.tv,w.tv with
  |some .bool,ZO a,ZO b=>(match op with| .eql=>K (.nb (.bool (a==b)))| .neq=>K (.nb (.bool (!(a==b))))|_=>False)
  |_,_,_=>False)
def P5 (P:Program) (t:TypeId) (a:Addr) (F:PH) (K:NV->(PH->Prop)->Prop):Prop:=
 match P.underlying t with
 |none=>False
 |some d=>match kdD d with
  | .agg=>(match tsz P t with|some (n,_)=>∃v:Array Value,v.size=n/\F.row a v/\K (.sv (.c (.agg v))) (λF=>F.row a v)|none=>False)
  |k=>∃x:k.T,F.cell a=ZO (k.v x)/\K (k.nv x) (λF=>F.cell a=ZO (k.v x))
def xm (σ:Sy) (y:Option Operand) (dflt:Nat) (K:Nat->Prop):Prop:=
 match y with
 |none=>K dflt
 |some y=>match σ.ov y with
  | .c (.int _ i)=>(match xk y with|true=>(match decide (0<=i) with|true=>K i.toNat|false=>False)|false=>0<=i/\K i.toNat)
  |_=>False
def bld (σ:Sy) (place:Nat->Option (Nat×Nat)) (n:Nat):List (Nat×Operand)->Array Value->(Array Value->Prop)->Prop
 |[],cs,K=>K cs
 | (i,x)::l,cs,K=>match place i with
  |none=>False
  |some (off,s)=>match σ.ov x with
   | .c (.agg c)=>(match Nat.ble (off+s) n with|true=>c.size=s/\bld σ place n l (wr cs off c.toList) K|false=>False)
   | .c v=>(match Nat.beq s 1,Nat.blt off n with|true,ZT=>bld σ place n l (cs.setIfInBounds off v) K|_,_=>False)
   | .any _=>False
   |w=>(match Nat.beq s 1,Nat.blt off n,w.val with|true,ZT,ZO v=>bld σ place n l (cs.setIfInBounds off v) K|_,_,_=>False)
def Vh:Op->Bool
 | .move _| .assign _| .pick _ _ _| .nilCheck _| .extract _ _| .fieldAddr _ _ _| .load _ _| .indexAddr _ _ _| .index _ _ _| .field _ _ _| .binOp _ _ _ _ _| .unOp _ _ _| .convert _ _ _| .slice _ _ _ _ _
 | .build _ _| .lookup _ _ _ _| .makeFunc _ _ _| .entry _=>ZT
 | .call ⟨.builtin .len,_,_⟩| .call ⟨.builtin .cap,_,_⟩| .call ⟨.builtin .max,_,_⟩| .call ⟨.builtin .min,_,_⟩=>ZT
 |_=>ZQ
def sxR (P:Program) (σ:Sy) (o:Oper) (F:PH) (K:RK):Prop:=
 match o.op with
 | .move x=>K σ (.sv (σ.cp x)) ZR
 | .assign x=>K σ (.sv (σ.cp x)) ZR
 | .pick c a b=>(match σ.ov c with| .lit ZT=>K σ (.sv (σ.cp a)) ZR| .lit ZQ=>K σ (.sv (σ.cp b)) ZR|_=>False)
 | .nilCheck x=>(match σ.ov x with
  | .c (.func (.func _) _ _)=>K σ (.sv (σ.cp x)) ZR
  |_=>sxA σ x λσ a=>K σ (.sv (.ad a)) ZR)
 | .extract x i=>(match σ.ov x with
  | .c (.tuple vs)=>(match vs[i]? with|some v=>K σ (ofk (kd P o.type) v) ZR|none=>False)
  | .vt w=>∃v:(kd P o.type).T,w[i]? =ZO ((kd P o.type).v v)/\K σ ((kd P o.type).nv v) ZR
  |_=>False)
 | .fieldAddr t x i=>(match P.underlying t with
  |some (.struct fs)=>(match fs[i]? with
   |some f=>(match tsz P f.type with|some (_+1,_)=>sxA σ x λσ a=>K σ (.sv (.ad (a.add f.offset))) ZR|_=>False)
   |none=>False)
  |_=>False)
 | .load t x=>sxA σ x λσ a=>P5 P t a F λv ck=>K σ v (ZO ck)
 | .indexAddr t x y=>(match σ.ov y,P.underlying t with
  | .c (.int _ i),ZO (.slice e)=>(match σ.ov x,tsz P e with
   | .c (.slice ZK len _),ZO (s,_)=>∃a:Addr,ZK=ZO a/\0<=i/\i<(len:Int)/\K σ (.sv (.ad (a.add (i.toNat*s)))) ZR
   |_,_=>False)
  | .c (.int _ i),ZO (.array n e)=>(match tsz P e with
   |some (s,_)=>sxA σ x λσ a=>0<=i/\i<(n:Int)/\K σ (.sv (.ad (a.add (i.toNat*s)))) ZR
   |_=>False)
  |_,_=>False)
 | .index t x y=>(match σ.ov x,σ.ov y,P.underlying t with
  | .c (.string s),.c (.int _ i),ZO .string=>0<=i/\i<(s.size:Int)/\∃(hx:Int.toNat i<s.size) (v:Int),v=((s[Int.toNat i]'hx).toNat:Int)/\K σ (.sv (.c (.int .u8 v))) ZR
  | .c (.agg cs),.c (.int _ i),ZO (.array n e)=>(match P.underlying e,tsz P e with
   |some d,ZO (s,_)=>(match kdD d with
    | .agg=>False
    |k=>0<=i/\i<(n:Int)/\∃v:k.T,cs[i.toNat*s]? =ZO (k.v v)/\K σ (k.nv v) ZR)
   |_,_=>False)
  |_,_,_=>False)
 | .field t x i=>(match σ.ov x,P.underlying t with
  | .c (.agg cs),ZO (.struct fs)=>(match fs[i]? with
   |some f=>(match P.underlying f.type,tsz P f.type with
    |some d,ZO (s,_)=>(match kdD d with
     | .agg=>K σ (.sv (.c (.agg (cs.extract f.offset (f.offset+s))))) ZR
     |k=>∃v:k.T,cs[f.offset]? =ZO (k.v v)/\K σ (k.nv v) ZR)
    |_,_=>False)
   |none=>False)
  |_,_=>False)
 | .binOp op t x y _=>Iv P σ op t x y λv=>K σ v ZR
 | .unOp op _ x=>(match op,σ.ov x with
  | .not,.lit b=>K σ (.sv (.lit (!b))) ZR
  | .not,.bool _ b=>K σ (.nb (.bool (!b))) ZR
  | .not,.prp _ p d=>K σ (.nb (.prp (¬p) (@instDecidableNot p d))) ZR
  | .neg,.c (.int k a)=>K σ (.sv (.c (.int k (k.wrap (0 - a))))) ZR
  |_,_=>False)
 | .convert t t' x=>(match σ.ov x,P.underlying t,P.underlying t' with
  | .c (.int _ a),ZO _,ZO (.int k')=>K σ (.sv (.c (.int k' (k'.wrap a)))) ZR
  | .c (.slice b l c),ZO (.slice e),ZO .string=>(match P.underlying e with
   |some (.int .u8)=>∃s:ByteArray,rdo P (Conv.bytesToString (.slice b l c)) F (.string s)/\K σ (.sv (.c (.string s))) (ZO λF=>rdo P (Conv.bytesToString (.slice b l c)) F (.string s))
   |_=>False)
  |_,_,_=>False)
 | .slice t x lo hi mx=>(match P.underlying t,mx with
  |some (.slice e),ZR=>(match σ.ov x,tsz P e with
   | .c (.slice b len cap),ZO (sz,_)=>xm σ lo 0 λl=>xm σ hi len λh=>l<=h/\h<=cap/\K σ (.sv (.c (Sl.v (Sl.cut ⟨b,len,cap⟩ sz l h cap)))) ZR
   |_,_=>False)
  |some .string,ZR=>(match σ.ov x with
   | .c (.string s)=>xm σ lo 0 λl=>xm σ hi s.size λh=>l<=h/\h<=s.size/\K σ (.sv (.c (.string (s.extract l h)))) ZR
   |_=>False)
  |some (.array n e),ZR=>(match tsz P e,lo,hi with
   |some (sz,_),ZR,ZR=>sxA σ x λσ a=>K σ (.sv (.c (Sl.v (Sl.cut ⟨ZO a,n,n⟩ sz 0 n n)))) ZR
   |some (sz,_),lo,hi=>sxA σ x λσ a=>xm σ lo 0 λl=>xm σ hi n λh=>l<=h/\h<=n/\K σ (.sv (.c (Sl.v (Sl.cut ⟨ZO a,n,n⟩ sz l h n)))) ZR
   |_,_,_=>False)
  |some (.slice e),ZO mx=>(match σ.ov x,tsz P e,hi.map σ.ov,σ.ov mx with
   | .c (.slice b len cap),ZO (sz,_),ZO (.c (.int _ i)),.c (.int _ m)=>xm σ lo 0 λl=>
    0<=i/\0<=m/\l<=i.toNat/\i<=m/\m<=(cap:Int)/\K σ (.sv (.c (Sl.v (Sl.cut ⟨b,len,cap⟩ sz l i.toNat m.toNat)))) ZR
   |_,_,_,_=>False)
  |_,_=>False)
 | .build t parts=>(match P.underlying t,bP P t with
  |some (.struct fs),ZO z=>okN (jI P fs) (bld σ (λi=>(mR P fs)[i]?) z.cells.size parts.toList z.cells λcs=>K σ (.sv (.c (.agg cs))) ZR)
  |some (.array _ e),ZO z=>(match tsz P e with
   |some (s,_)=>bld σ (λi=>ZO (i*s,s)) z.cells.size parts.toList z.cells λcs=>K σ (.sv (.c (.agg cs))) ZR
   |none=>False)
  |_,_=>False)
 | .makeFunc (.func f) first cap=>xj σ first.toList λus=>xj σ cap.toList λvs=>K σ (.sv (.c (.func (.func f) us.toArray vs.toArray))) ZR
 | .lookup t x y ok=>(match (σ.ov x).val,(σ.ov y).val,P.underlying t with
  |some u,ZO v,ZO (.map _ e)=>(match ok with
   |true=>∃(r:(kd P e).T) (b:Bool),rdo P (Instr.lookup t u v ZT) F (.tuple #[(kd P e).v r,.bool b])/\K σ (.sv (.c (.tuple #[(kd P e).v r,.bool b]))) (ZO λF=>rdo P (Instr.lookup t u v ZT) F (.tuple #[(kd P e).v r,.bool b]))
   |false=>∃r:(kd P e).T,rdo P (Instr.lookup t u v ZQ) F ((kd P e).v r)/\K σ ((kd P e).nv r) (ZO λF=>rdo P (Instr.lookup t u v ZQ) F ((kd P e).v r)))
  |_,_,_=>False)
 | .entry x=>(match (σ.ov x).val with
  |some u=>∃w:Array Value,rdo P (Instr.entry u) F (.tuple w)/\K σ (.sv (.vt w)) (ZO λF=>rdo P (Instr.entry u) F (.tuple w))
  |none=>False)
 | .call ⟨.builtin b,args,ts⟩=>(match b,args.toList.map σ.ov,ts.toList with
  | .len,[.c (.slice _ l _)],[t]=>(match P.underlying t with|some (.slice _)=>K σ (.sv (.c (.int .i64 (l:Int)))) ZR|_=>False)
  | .len,[.c (.string s)],[t]=>(match P.underlying t with|some .string=>K σ (.sv (.c (.int .i64 (s.size:Int)))) ZR|_=>False)
  | .len,[.c (.map m)],[t]=>∃v:Int,rdo P (Builtin.len_ #[t] o.type #[.map m]) F (.int .i64 v)/\K σ (.sv (.c (.int .i64 v))) (ZO λF=>rdo P (Builtin.len_ #[t] o.type #[.map m]) F (.int .i64 v))
  | .cap,[.c (.slice _ _ c)],[t]=>(match P.underlying t with|some (.slice _)=>K σ (.sv (.c (.int .i64 (c:Int)))) ZR|_=>False)
  | .max,[.c (.int k a),.c (.int k' b)],_=>okN (decide (k=k')) (K σ (.sv (.c (.int k (max a b)))) ZR)
  | .min,[.c (.int k a),.c (.int k' b)],_=>okN (decide (k=k')) (K σ (.sv (.c (.int k (min a b)))) ZR)
  | .max,[.c (.int k a),.c (.int k' b),.c (.int k'' c)],_=>okN (decide (k=k'/\k=k'')) (K σ (.sv (.c (.int k (max (max a b) c)))) ZR)
  | .min,[.c (.int k a),.c (.int k' b),.c (.int k'' c)],_=>okN (decide (k=k'/\k=k'')) (K σ (.sv (.c (.int k (min (min a b) c)))) ZR)
  |_,_,_=>False)
 |_=>False
def yW (P:Program) (σ:Sy) (d:Option Tmp) (t:TypeId) (v:Value) (K:Sy->Prop):Prop:=
 match d with
 |none=>K σ
 |some d=>match P.underlying t with
  |some (.tuple ts)=>(match ts.toList with
   |[]=>v=.tuple #[]/\K (σ.put d (.sv (.c (.tuple #[]))))
   |[a]=>∃x:(kd P a).T,v=.tuple #[(kd P a).v x]/\K (σ.put d (.sv (.c (.tuple #[(kd P a).v x]))))
   |[a,b]=>∃x:(kd P a).T,∃y:(kd P b).T,v=.tuple #[(kd P a).v x,(kd P b).v y]/\K (σ.put d (.sv (.c (.tuple #[(kd P a).v x,(kd P b).v y]))))
   |[a,b,c]=>∃x:(kd P a).T,∃y:(kd P b).T,∃z:(kd P c).T,v=.tuple #[(kd P a).v x,(kd P b).v y,(kd P c).v z]/\K (σ.put d (.sv (.c (.tuple #[(kd P a).v x,(kd P b).v y,(kd P c).v z]))))
   |[a,b,c,e]=>∃x:(kd P a).T,∃y:(kd P b).T,∃z:(kd P c).T,∃u:(kd P e).T,v=.tuple #[(kd P a).v x,(kd P b).v y,(kd P c).v z,(kd P e).v u]/\K (σ.put d (.sv (.c (.tuple #[(kd P a).v x,(kd P b).v y,(kd P c).v z,(kd P e).v u]))))
   |_=>False)
  |_=>∃x:(kd P t).T,v=(kd P t).v x/\K (σ.put d ((kd P t).nv x))
abbrev EK:=Bool->Sy->PH->Prop
def sxN (σ:Sy) (d:Option Tmp) (o:Obj) (s:Nat->SV) (F:PH) (K:EK):Prop:=
 ∀b,F b=ZR->atF (F.set b o) λF=>K ZT (σ.putO d (.sv (s b))) F
def LI (σ:Sy):Nat->List (Nat×Operand)->Option (List Value)
 |_,[]=>ZO []
 |k,(i,x)::l=>match Nat.beq i k,σ.ov x with
  |true,.c (.agg _)=>ZR
  |true,.any _=>ZR
  |true,w=>(match w.val,LI σ (k+1) l with|some v,ZO vs=>ZO (v::vs)|_,_=>ZR)
  |false,_=>ZR
def sxE (P:Program) (σ:Sy) (o:Oper) (F:PH) (K:EK):Prop:=
 match o.op with
 | .alloc t=>(match bP P t with|some z=>sxN σ o.dst (ZP z.cells t) (λb=> .ad ⟨b,0,ZR⟩) F K|none=>False)
 | .box t x=>(match σ.ov x with
  | .c (.agg c)=>sxN σ o.dst (ZP c t) (λb=> .ad ⟨b,0,ZR⟩) F K
  | .any v=>v.cells= #[v]/\sxN σ o.dst (ZP #[v] t) (λb=> .ad ⟨b,0,ZR⟩) F K
  |w=>(match w.val with|some v=>sxN σ o.dst (ZP #[v] t) (λb=> .ad ⟨b,0,ZR⟩) F K|none=>False))
 | .buildSlice t m parts=>(match P.underlying t with
  |some (.slice e)=>(match tsz P e,bP P e with
   |some (s,_),ZO z=>(match Nat.ble (m*s) 16777216,Nat.beq z.cells.size s,Nat.blt 0 s with
    |true,ZT,ZT=>(match Nat.beq s 1,Nat.beq parts.toList.length m,LI σ 0 parts.toList with
     |true,ZT,ZO l=>sxN σ o.dst (ZP l.toArray e) (λb=> .c (Sl.v ⟨ZO ⟨b,0,ZR⟩,m,m⟩)) F K
     |_,_,_=>(match m,parts.toList.map (λp=>(p.1,σ.ov p.2)) with
      |1,[(0,.c (.agg c))]=>c.size=s/\sxN σ o.dst (ZP c e) (λb=> .c (Sl.v ⟨ZO ⟨b,0,ZR⟩,1,1⟩)) F K
      |m,_=>bld σ (λi=>ZO (i*s,s)) (m*s) parts.toList ((List.replicate m z.cells.toList).flatten).toArray λcs=>sxN σ o.dst (ZP cs e) (λb=> .c (Sl.v ⟨ZO ⟨b,0,ZR⟩,m,m⟩)) F K))
    |_,_,_=>False)
   |_,_=>False)
  |_=>False)
 | .store t x y=>sxA σ x λσ a=>(match σ.ov y,tsz P t with
  | .c (.agg v),ZO (n+1,_)=>aw F a (n+1) v λF=>K ZQ (σ.putO o.dst (.sv .und)) F
  | .c (.tuple _),_=>False
  | .c v,ZO (1,_)=>sto F a v λF=>K ZQ (σ.putO o.dst (.sv .und)) F
  | .any v,ZO (1,_)=>am v/\v.cells= #[v]/\sto F a v λF=>K ZQ (σ.putO o.dst (.sv .und)) F
  | .vt _,_=>False
  | .und,_=>False
  |w,ZO (1,_)=>(match w.val with|some v=>sto F a v λF=>K ZQ (σ.putO o.dst (.sv .und)) F|none=>False)
  |_,_=>False)
 | .range t x=>(match P.underlying t,σ.ov x with
  |some .string,.c (.string s)=>sxN σ o.dst (.stringIter s 0) (λb=> .ad ⟨b,0,ZR⟩) F K
  |some (.map _ _),w=>(match w.val with
   |some v=>aH P (Instr.range t v) F λv F=>∃b:Nat,v=.pointer (ZO ⟨b,0,ZR⟩)/\K ZQ (σ.putO o.dst (.sv (.ad ⟨b,0,ZR⟩))) F
   |none=>False)
  |_,_=>False)
 | .next x is=>(match (σ.ov x).val with
  |some v=>aH P (Instr.next v is o.type) F λv F=>∃w:Array Value,v=.tuple w/\K ZQ (σ.putO o.dst (.sv (.vt w))) F
  |none=>False)
 | .makeSlice t x y=>(match (σ.ov x).val,(σ.ov y).val with
  |some u,ZO v=>aH P (Instr.makeSlice t u v) F λv F=>∃s:Sl,v=Sl.v s/\K ZQ (σ.putO o.dst (.sv (.c (Sl.v s)))) F
  |_,_=>False)
 | .makeMap _ ZR=>sxN σ o.dst (.map #[] 0) (λb=> .c (.map (ZO b))) F K
 | .mapUpdate t x y z=>(match (σ.ov x).val,(σ.ov y).val,(σ.ov z).val with
  |some u,ZO v,ZO w=>aH P (Instr.mapUpdate t u v w) F λ_ F=>K ZQ (σ.putO o.dst (.sv .und)) F
  |_,_,_=>False)
 | .insert t x y z=>(match (σ.ov x).val,(σ.ov y).val,(σ.ov z).val with
  |some u,ZO v,ZO w=>aH P (Instr.mapUpdate t u v w) F λ_ F=>K ZQ (σ.putO o.dst (.sv .und)) F
  |_,_,_=>False)
 | .call ⟨.builtin b,args,ts⟩=>(match b,args.toList with
  | .append,[x,y]=>(match (σ.ov x).val,(σ.ov y).val with
   |some u,ZO v=>aH P (Builtin.append_ ts o.type #[u,v]) F λv F=>∃s:Sl,v=Sl.v s/\K ZQ (σ.putO o.dst (.sv (.c (Sl.v s)))) F
   |_,_=>False)
  | .copy,[x,y]=>(match (σ.ov x).val,(σ.ov y).val with
   |some u,ZO v=>aH P (Builtin.copy_ ts o.type #[u,v]) F λv F=>∃n:Int,v=.int .i64 n/\K ZQ (σ.putO o.dst (.sv (.c (.int .i64 n)))) F
   |_,_=>False)
  | .delete,[x,y]=>(match (σ.ov x).val,(σ.ov y).val with
   |some u,ZO v=>aH P (Builtin.delete_ ts o.type #[u,v]) F λ_ F=>K ZQ (σ.putO o.dst (.sv .unk)) F
   |_,_=>False)
  |_,_=>False)
 | .call ⟨.value (.func f),args,_⟩=>xj σ args.toList λvs=>okN (aE P f) (aj P f vs.toArray F λv F=>yW P σ o.dst o.type v λσ=>K ZQ σ F)
 | .call ⟨.value g,args,_⟩=>xj σ args.toList λvs=>(match σ.ov g with
  | .c (.func (.func f) a b)=>okN (aE P f) (aj P f (a++vs.toArray++b) F λv F=>yW P σ o.dst o.type v λσ=>K ZQ σ F)
  | .any u=>∃(k:Nat) (a b:Array Value),u=.func (.func k) a b/\aE P k=ZT/\aj P k (a++vs.toArray++b) F λv F=>yW P σ o.dst o.type v λσ=>K ZQ σ F
  |_=>False)
 | .defer ⟨.value g,args,_⟩=>xj σ args.toList λvs=>(match σ.ov g with
  | .c (.func (.func f) a b)=>AQ P ⟨.fn (.func f) b,a++vs.toArray⟩/\K ZQ (σ.putO o.dst (.sv .und)) F
  |_=>False)
 |_=>False
inductive G|go|no|split (i:Nat) (b:SB) (want:Bool)|bad
def grd (ops:Array Oper) (σ:Sy) (o:Oper):G:=
 match o.guard with
 |none=> .go
 |some (j,want)=>match (ops[j]?).bind (·.dst) with
  |none=> .no
  |some t=>match σ.vw t with
   | .lit b=>(match b==want with|true=> .go|false=> .no)
   | .und=> .no
   | .bool i b=> .split i (.bool b) want
   | .prp i p d=> .split i (.prp p d) want
   |_=> .bad
def spl (b:SB) (f:Bool->Prop):Prop:=
 match b with
 | .bool b=>(b=ZT->f ZT)/\(b=ZQ->f ZQ)
 | .prp p _=>(p->f ZT)/\(¬p->f ZQ)
 |_=>False
def sxO (P:Program) (o:Oper) (K:Sy->PH->Prop) (σ:Sy) (F:PH):Prop:=
 match Vh o.op with
 |true=>sxR P σ o F λσ v _=>K (σ.putO o.dst v) F
 |false=>sxE P σ o F λ_ σ F=>K σ F
def sxL (P:Program) (n:Nat) (ops:Array Oper) (K:Sy->PH->Prop):List Oper->Sy->PH->Prop
 |[],σ,F=>K σ F
 |o::l,σ,F=>okN (fO n o.dst) (match grd ops σ o with
  | .go=>sxO P o (sxL P n ops K l) σ F
  | .no=>sxL P n ops K l (σ.putO o.dst (.sv .und)) F
  | .split i b want=>spl b λv=>match v==want with
   |true=>sxO P o (sxL P n ops K l) (σ.rf i (.lit v)) F
   |false=>sxL P n ops K l ((σ.rf i (.lit v)).putO o.dst (.sv .und)) F
  | .bad=>False)
abbrev Pn:=List (Nat×(PH->Prop))
def P6 (F:PH):Pn->Prop->Prop
 |[],K=>K
 | (_,c)::l,K=>c F/\P6 F l K
def u6 (ops:Array Oper) (σ:Sy):List Nat->Option (Nat×Oper×G)
 |[]=>ZR
 |i::l=>match ops[i]? with
  |none=>ZR
  |some o=>match grd ops σ o with
   | .go=>(match Vh o.op with|true=>ZO (i,o,.go)|false=>u6 ops σ l)
   |g=>ZO (i,o,g)
def P7:List Prop->Prop
 |[]=>False
 |[p]=>p
 |p::l=>p/\P7 l
def sxD (P:Program) (n:Nat) (ops:Array Oper) (K:Sy->PH->Prop):Nat->Nat->Array Bool->Pn->Sy->PH->Prop
 |0,_,_,_,_,_=>False
 |k+1,fuel,listed,pend,σ,F=>match Region.ready .any ops listed with
  |[]=>K σ F
  |rs=>match fuel with
   |0=>False
   |fuel+1=>match u6 ops σ rs with
    |some (i,o,g)=>okN (Region.noSelect ops && Region.free .any ops listed i && (Region.ready .any ops listed).contains i && fO n o.dst) (match g with
     | .no=>sxD P n ops K k fuel (listed.setIfInBounds i ZT) pend (σ.putO o.dst (.sv .und)) F
     | .split j b _=>spl b λv=>sxD P n ops K k (fuel+1) listed pend (σ.rf j (.lit v)) F
     | .go=>sxR P σ o F λσ v ck=>sxD P n ops K k fuel (listed.setIfInBounds i ZT) (match ck with|none=>pend|some c=>(i,c)::pend) (σ.putO o.dst v) F
     | .bad=>False)
    |none=>P7 (rs.map λi=>match ops[i]? with
     |none=>False
     |some o=>okN (fO n o.dst) (sxE P σ o F λfl σ F=>
      match fl with
      |true=>sxD P n ops K k fuel (listed.setIfInBounds i ZT) (pend.filter λp=> !Oper.waits .any o p.1) σ F
      |false=>P6 F (pend.filter λp=> !Oper.waits .any o p.1) (sxD P n ops K k fuel (listed.setIfInBounds i ZT) (pend.filter λp=> !Oper.waits .any o p.1) σ F)))
def Tl:List (Nat×Kd)->Type
 |[]=>PH->Prop
 | (_,k)::l=>k.T->Tl l
def pay (w:VW):(k:Kd)->(k.T->Prop)->Prop
 | .int k,K=>(match w with| .c (.int k' x)=>(match decide (k=k') with|true=>K x|false=>False)|_=>False)
 | .bool,K=>(match w with| .lit b=>K b| .bool _ b=>K b| .prp _ p d=>K (@decide p d)|_=>False)
 | .ptr,K=>(match w with| .ad a=>K (ZO a)| .ptr _ p=>K p| .c (.pointer p)=>K p|_=>False)
 | .sl,K=>(match w with| .c (.slice b l c)=>K ⟨b,l,c⟩|_=>False)
 | .str,K=>(match w with| .c (.string s)=>K s|_=>False)
 | .map,K=>(match w with| .c (.map m)=>K m|_=>False)
 | .agg,K=>(match w with| .c (.agg c)=>K c|_=>False)
 | .any,K=>(match w.val with|some v=>K v|none=>False)
def jap (σ:Sy):(l:List (Nat×Kd))->Tl l->PH->Prop
 |[],J,F=>J F
 | (t,k)::l,J,F=>pay (σ.vw t) k λx=>jap σ l (J x) F
def jbd (f:Sy->PH->Prop):(l:List (Nat×Kd))->Sy->Tl l
 |[],σ=>f σ
 |(t,k)::l,σ=>λx=>jbd f l (σ.put t (k.nv x))
def Qa (f:Sy->PH->Prop):(l:List (Nat×Kd))->Tl l->Sy->Prop
 |[],J,σ=>∀F,J F->f σ F
 |(t,k)::l,J,σ=>∀x:k.T,Qa f l (J x) (σ.put t (k.nv x))
def Qb:(l:List (Nat×Kd))->Tl l->Tl l->Prop
 |[],J,Y=>∀F,J F->Y F
 |(_,k)::l,J,Y=>∀x:k.T,Qb l (J x) (Y x)
def jdn:(l:List (Nat×Kd))->(Nat->Tl l)->Nat->Tl l
 |[],I,m=>λF=>∃m',m'<m/\I m' F
 | (_,_)::l,I,m=>λx=>jdn l (λm'=>I m' x) m
inductive jk|N|T (a b:jk)|J (cut:Bool) (l:List (Nat×Kd)) (a b:jk)|L (l:List (Nat×Kd)) (a:jk)
abbrev jk.ZN (h:jk):jk:=.T .N h
def jk.fst:jk->jk
 | .T a _=>a| .J _ _ a _=>a| .L _ a=>a| .N=> .N
def jk.snd:jk->jk
 | .T _ b=>b| .J _ _ _ b=>b|_=> .N
def jk.jn:jk->Option (Bool×List (Nat×Kd))
 | .J c l _ _=>ZO (c,l)|_=>ZR
def jk.lv:jk->List (Nat×Kd)
 | .L l _=>l|_=>[]
def Iw:List Oper->List Nat
 |[]=>[]
 |o::l=>match o.dst with|some d=>d::Iw l|none=>Iw l
def jl:Code->List Nat
 | .region _ ops _=>Iw ops.toList
 | .seq a b=>jl a++jl b
 | .cond _ a b=>jl a++jl b
 | .block _ c=>jl c
 | .loop c=>jl c
 | .scope c=>jl c
 |_=>[]
abbrev CK:=Exit->Sy->PH->Prop
def onN (f:Sy->PH->Prop) (K:CK):CK
 | .normal,σ,F=>f σ F
 |x,σ,F=>K x σ F
def onX (id:Nat) (K:CK):CK
 | .exit i,σ,F=>bif Nat.beq i id then K .normal σ F else K (.exit i) σ F
 |x,σ,F=>K x σ F
def noG (K:CK):CK
 | .goto _,_,_=>False
 |x,σ,F=>K x σ F
def sx (P:Program) (n:Nat):Code->jk->CK->Sy->PH->Prop
 | .skip,_,K,σ,F=>K .normal σ F
 | .label _,_,K,σ,F=>K .normal σ F
 | .scope c,h,K,σ,F=>sx P n c h (noG K) σ F
 | .ret,_,K,σ,F=>K .ret σ F
 | .exit i,_,K,σ,F=>K (.exit i) σ F
 | .region _ ops ZQ,_,K,σ,F=>sxL P n ops (K .normal) ops.toList σ F
 | .region _ ops ZT,_,K,σ,F=>okN (P.follows .mixedOrders) (sxD P n ops (K .normal) (3*ops.size+1) ops.size (Array.replicate ops.size ZQ) [] σ F)
 | .seq a b,h,K,σ,F=>(match h.jn with
  |none=>sx P n a h.fst (onN (sx P n b h.snd K) K) σ F
  |some (ZQ,l)=>sx P n a h.fst (onN (λσ' F=>jap σ' l (jbd (sx P n b h.snd K) l (σ.hav (jl a))) F) K) σ F
  |some (ZT,l)=>∃J:Tl l,Qb l J (jbd (sx P n b h.snd K) l (σ.hav (jl a)))/\sx P n a h.fst (onN (λσ' F=>jap σ' l J F) K) σ F)
 | .cond c a b,h,K,σ,F=>(match σ.ov c with
  | .lit ZT=>sx P n a h.fst K σ F
  | .lit ZQ=>sx P n b h.snd K σ F
  | .bool _ t=>(t=ZT->sx P n a h.fst K σ F)/\(t=ZQ->sx P n b h.snd K σ F)
  | .prp _ p _=>(p->sx P n a h.fst K σ F)/\(¬p->sx P n b h.snd K σ F)
  |_=>False)
 | .block id c,h,K,σ,F=>sx P n c h (onX id K) σ F
 | .loop c,h,K,σ,F=>∃(I:Nat->Tl h.lv) (m:Nat),jap σ h.lv (I m) F/\∀m,Qa (sx P n c h.fst (onN (λσ' F=>jap σ' h.lv (jdn h.lv I m) F) K)) h.lv (I m) (σ.hav (jl c))
 |_,_,_,_,_=>False
def tu (P:Program) (σ:Sy):List ResultVar->PH->(List Value->Prop)->Prop
 |[],_,K=>K []
 | .tmp t::l,F,K=>match (σ.vw t).val with|some v=>tu P σ l F (λvs=>K (v::vs))|none=>False
 | .cell x t::l,F,K=>match σ.vw x with
  | .ad a=>(match P.underlying t with
   |none=>False
   |some d=>match kdD d with
    | .agg=>(match tsz P t with|some (n,_)=>∃v:Array Value,v.size=n/\F.row a v/\tu P σ l F (λvs=>K (.agg v::vs))|none=>False)
    |k=>∃x:k.T,F.cell a=ZO (k.v x)/\tu P σ l F (λvs=>K (k.v x::vs)))
  |_=>False
def Vi:List Value->Value
 |[v]=>v
 |vs=> .tuple vs.toArray
def Vj (P:Program) (fn:Func) (R:Value->PH->Prop):CK
 | .normal,σ,F| .ret,σ,F=>okN (Nat.ble fn.results.size 4) (tu P σ fn.results.toList F λvs=>R (Vi vs) F)
 |_,_,_=>False
def DI (P:Program):Nat->List TypeId->List Value->Sy->Sy
 |_,_,[],σ=>σ
 |i,[],v::vs,σ=>DI P (i+1) [] vs (σ.put i (ofk .ptr v))
 |i,t::ts,v::vs,σ=>DI P (i+1) ts vs (σ.put i (ofk (kd P t) v))
def sxF (P:Program) (k:Nat) (h:jk) (args:List Value) (R:Value->PH->Prop) (F:PH):Prop:=
 match P.funcs[k]? with
 |none=>False
 |some fn=>match fn.body with
  |none=>False
  |some c=>okN (Nat.ble args.length fn.ntmps) (sx P fn.ntmps c h (Vj P fn R) (DI P 0 fn.params.toList args ⟨λ_=> .unk,λ_=>ZR,0⟩) F)
end Rx
abbrev Γ:=Array Value
abbrev Δ:=List Nat
abbrev Θ:=Option Addr
abbrev Ξ:=List Value
abbrev Φ:=List Int
abbrev Ψ:=PH->Prop
abbrev Ω:=Int->PH->Prop
abbrev ξ:=Value
abbrev ο:=ByteArray
end Go.Proofs.YtcemhghkipgdiaaGreatDoor
namespace Go.Proofs.YtcemhghkipgdiaaGreatDoor.Rx
open Go
def okV (T:Nat->Option SB):SV->Value->Prop
 | .c v,x=>x=v| .any v,x=>x=v| .ad a,x=>x=.pointer (ZO a)| .lit b,x=>x=.bool b| .vt w,x=>x=.tuple w| .und,x=>x=undef
 | .ref i,x=>∃b,T i=ZO b/\x=b.v
 | .unk,_=>True
structure Rel (σ:Sy) (E:En):Prop where
 val:∀t,okV σ.T (σ.S t) (E t)
 top:∀j,σ.n<=j->σ.T j=ZR
def jM (T:Nat->Option SB):NV->Value->Prop
 | .sv s,v=>okV T s v
 | .nb b,v=>v=b.v
theorem OB {T:Nat->Option SB} {s:SV} {x v:Value} (h:okV T s x) (hv:(s.vw T).val=ZO v):x=v:=by
 cases s with
 |ref i=>obtain ⟨b,hb,rfl⟩:=h;simp only [SV.vw,hb] at hv;cases b<;>simp_all [SB.vw,VW.val,SB.v]
 |unk=>simp [SV.vw,VW.val] at hv
 |_=>simp_all [SV.vw,VW.val,okV]
section
variable {P:Program} {σ:Sy} {E:En} {F:PH} {x y:Operand} {o:Oper}
theorem Qc {T:Nat->Option SB} (v:Value):okV T (Vg v) v:=by cases v<;>rfl
theorem u7 (h:Rel σ E) (x:Operand):okV σ.T (σ.cp x) (ev E x):=by
 cases x with
 |tmp t=>exact h.val t
 |const v=>exact Qc v
 |global g=>rfl
 |func f=>rfl
theorem bz (h:Rel σ E) {w:VW} {v:Value} (hw:σ.ov x=w) (hv:w.val=ZO v):ev E x=v:=OB (u7 h x) (by rw [<- hw] at hv;exact hv)
theorem ovc (h:Rel σ E) {v:Value} (hw:σ.ov x=.c v):ev E x=v:=bz h hw rfl
theorem LJ {i:Nat} {p:Option Addr} (hw:σ.ov x=.ptr i p):σ.T i=ZO (.ptr p):=by
 unfold Sy.ov at hw;cases hs:σ.cp x<;>simp only [hs,SV.vw] at hw<;>try cases hw
 rename_i j;cases hb:σ.T j with
 |none=>simp [hb] at hw
 |some b=>cases b<;>simp only [hb,SB.vw] at hw<;>cases hw;exact hb
theorem Iy {i t:Nat} {b:Bool} (hw:σ.vw t=.bool i b):σ.T i=ZO (.bool b):=by
 unfold Sy.vw at hw;cases hs:σ.S t<;>simp only [hs,SV.vw] at hw<;>try cases hw
 rename_i j;cases hb:σ.T j with
 |none=>simp [hb] at hw
 |some b=>cases b<;>simp only [hb,SB.vw] at hw<;>cases hw;exact hb
theorem LL {i t:Nat} {p:Prop} {d:Decidable p} (hw:σ.vw t=.prp i p d):σ.T i=ZO (.prp p d):=by
 unfold Sy.vw at hw;cases hs:σ.S t<;>simp only [hs,SV.vw] at hw<;>try cases hw
 rename_i j;cases hb:σ.T j with
 |none=>simp [hb] at hw
 |some b=>cases b<;>simp only [hb,SB.vw] at hw<;>cases hw;exact hb
theorem qG {α:Type} (f:Nat->α) (d:Nat) (v:α):up f d v d=v:=by simp [up]
theorem u9 {α:Type} (f:Nat->α) {d t:Nat} (v:α) (h:¬t=d):up f d v t=f t:=by simp only [up,kX h];rfl
theorem Rel.put (h:Rel σ E) {d:Nat} {nv:NV} {v:Value} (hv:jM σ.T nv v):Rel (σ.put d nv) (upd E d v):=by
 cases nv with
 |sv s=>
  refine ⟨λt=> ?_,h.top⟩;by_cases ht:t=d
  ·subst ht;show okV _ (up _ _ _ t) (upd E t v t);rw [qG,show upd E t v t=v by simp [upd]];exact hv
  ·show okV _ (up _ _ _ t) (upd E d v t);rw [u9 _ _ ht];simp only [upd,kX ht];exact h.val t
 |nb b=>
  have key:∀s x,okV σ.T s x->okV (up σ.T σ.n (ZO b)) s x:=by
   intro s x hs;cases s with
   |ref i=>obtain ⟨b',hb,hx⟩:=hs;refine ⟨b',?_,hx⟩;rw [u9 _ _ (λe=> ?_)];exact hb;rw [e,h.top _ (XS _)] at hb;cases hb
   |_=>exact hs
  refine ⟨λt=> ?_,λj hj=> ?_⟩
  ·by_cases ht:t=d
   ·subst ht;show okV _ (up _ _ _ t) (upd E t v t);rw [qG];exact ⟨b,qG ..,(show upd E t v t=v by simp [upd]).trans hv⟩
   ·show okV _ (up _ _ _ t) (upd E d v t);rw [u9 _ _ ht];simp only [upd,kX ht];exact key _ _ (h.val t)
  ·have hj':σ.n+1<=j:=hj;show up σ.T σ.n (ZO b) j=ZR;rw [u9 _ _ (by omega)];exact h.top _ (by omega)
theorem Rel.putO (h:Rel σ E) {d:Option Tmp} {nv:NV} {v:Value} (hv:jM σ.T nv v):Rel (σ.putO d nv) (cZ E d v):=by
 cases d with
 |none=>exact h
 |some d=>exact h.put hv
theorem Rel.rf (h:Rel σ E) {i:Nat} {b0 b:SB} (hi:σ.T i=ZO b0) (hv:b0.v=b.v):Rel (σ.rf i b) E:=by
 refine ⟨λt=> ?_,λj hj=> ?_⟩
 ·have:=h.val t;show okV (up σ.T i (ZO b)) (σ.S t) (E t);cases hs:σ.S t with
  |ref j=>
   rw [hs] at this;obtain ⟨b',hb,hx⟩:=this;by_cases hji:j=i
   ·subst hji;rw [hi] at hb;cases hb;exact ⟨b,qG ..,hx.trans hv⟩
   ·exact ⟨b',by rw [u9 _ _ hji];exact hb,hx⟩
  |_=>rw [hs] at this;exact this
 ·show up σ.T i (ZO b) j=ZR;have:¬j=i:=λe=>by subst e;rw [h.top _ hj] at hi;cases hi
  rw [u9 _ _ this];exact h.top _ hj
theorem tw {T:Nat->Option SB} (k:Kd) (x:k.T):jM T (k.nv x) (k.v x):=by cases k<;>rfl
theorem Iz {T:Nat->Option SB} (k:Kd) (v:Value):jM T (ofk k v) v:=by cases k<;>first|rfl|(cases v<;>first|rfl|exact True.intro)
theorem ln {K:Sy->Addr->Prop} (h:sxA σ x K) (r:Rel σ E):∃σ' a,Rel σ' E/\ev E x=.pointer (ZO a)/\K σ' a:=by
 unfold sxA at h;split at h
 ·rename_i a hw;exact ⟨σ,a,r,bz r hw rfl,h⟩
 ·rename_i i p hw;obtain ⟨a,rfl,h⟩:=h;exact ⟨σ.rf i (.ad a),a,r.rf (LJ hw) rfl,bz r hw rfl,h⟩
 ·rename_i a hw;exact ⟨σ,a,r,bz r hw rfl,h⟩
 ·exact h.elim
theorem kj (r:Rel σ E):∀(l:List Operand) {K:List Value->Prop},xj σ l K->∃us,l.map (ev E)=us/\K us
 |[],_,h=>⟨[],rfl,h⟩
 |x::l,K,h=>by
  unfold xj at h;split at h
  ·rename_i v hv;obtain ⟨us,h1,h2⟩:=kj r l h;exact ⟨v::us,by rw [Yf,h1,bz r rfl hv],h2⟩
  ·exact h.elim
def A6 (P:Program) (E:En) (F:PH) (o:Oper) (K:RK):Prop:=
 ∃σ nv ck v,RD P E F o v/\Rel σ E/\jM σ.T nv v/\(match ck with|none=>∀F,RD P E F o v|some c=>c F/\∀F':PH,c F'->RD P E F' o v)/\K σ nv ck
theorem A6.pure {K:RK} {nv:NV} {v:Value} (hy:∀F,RD P E F o v) (r:Rel σ E) (h:K σ nv ZR) (hv:jM σ.T nv v):A6 P E F o K:=⟨σ,nv,ZR,v,hy F,r,hv,hy,h⟩
theorem A6.chk {K:RK} {nv:NV} {v:Value} {c:PH->Prop} (hc:c F) (hy:∀F',c F'->RD P E F' o v) (r:Rel σ E) (h:K σ nv (ZO c)) (hv:jM σ.T nv v):A6 P E F o K:=⟨σ,nv,ZO c,v,hy F hc,r,hv,⟨hc,hy⟩,h⟩
def E9 (P:Program) (E:En) (o:Oper) (K:NV->Prop):Prop:=∃nv v,(∀F,RD P E F o v)/\(∀T,jM T nv v)/\K nv
theorem E9.mk {K:NV->Prop} {nv:NV} {v:Value} (hy:∀F,RD P E F o v) (h:K nv) (hv:∀T,jM T nv v:=by exact λ_=>rfl):E9 P E o K:=⟨nv,v,hy,hv,h⟩
theorem Qd {op:BinOp} {k:IntKind} {a b:Int} {t t':TypeId} {lit:Bool} {K:NV->Prop} (h:sxI op k a b lit K) (ho:o.op=.binOp op t x y t') (hx:ev E x=.int k a) (hy:ev E y=.int k b):E9 P E o K:=by
 cases op<;>simp only [sxI] at h
 case add=>exact .mk (λF=>UM ho hx hy) h
 case sub=>exact .mk (λF=>UN ho hx hy) h
 case mul=>exact .mk (λF=>UO ho hx hy) h
 case quo=>
  cases lit
  ·exact .mk (λF=>Oj ho hx hy h.1) h.2
  ·simp only at h;split at h
   ·rename_i hb;exact .mk (λF=>Oj ho hx hy (ε hb)) h
   ·exact h.elim
 case rem=>
  cases lit
  ·exact .mk (λF=>Ok ho hx hy h.1) h.2
  ·simp only at h;split at h
   ·rename_i hb;exact .mk (λF=>Ok ho hx hy (ε hb)) h
   ·exact h.elim
 case and=>exact .mk (λF=>UP ho hx hy) h
 case or=>exact .mk (λF=>Xg ho hx hy) h
 case xor=>exact .mk (λF=>UQ ho hx hy) h
 case andNot=>exact .mk (λF=>HY ho hx hy) h
 case lss=>exact .mk (λF=>UR ho hx hy) h
 case leq=>exact .mk (λF=>US ho hx hy) h
 case gtr=>exact .mk (λF=>UT ho hx hy) h
 case geq=>exact .mk (λF=>UU ho hx hy) h
 case eql=>exact .mk (λF=>UV ho hx hy) h
 case neq=>exact .mk (v:=.bool (decide (a≠b))) (λF=>by
  have:=UW (P:=P) (F:=F) ho hx hy;rw [show (a !=b)=decide (a≠b) by rw [XV];simp] at this
  exact this) h
theorem Qe {op:BinOp} {k k':IntKind} {a b:Int} {t t':TypeId} {lit:Bool} {K:NV->Prop} (h:sxH op k a b lit K) (ho:o.op=.binOp op t x y t') (hx:ev E x=.int k a) (hy:ev E y=.int k' b):E9 P E o K:=by
 cases op<;>simp only [sxH] at h
 case shl=>
  cases lit
  ·exact .mk (λF=>Ol ho hx hy h.1) h.2
  ·simp only at h;split at h
   ·rename_i hb;exact .mk (λF=>Ol ho hx hy (ε hb)) h
   ·exact h.elim
 case shr=>
  cases lit
  ·exact .mk (λF=>Om ho hx hy h.1) h.2
  ·simp only at h;split at h
   ·rename_i hb;exact .mk (λF=>Om ho hx hy (ε hb)) h
   ·exact h.elim
theorem xn {w:VW} {b:Bool} (h:w.tv=ZO b):w.val=ZO (.bool b):=by cases w<;>simp [VW.tv] at h<;>subst h<;>rfl
theorem IA {op:BinOp} {t t':TypeId} {K:NV->Prop} (h:Iv P σ op t x y K) (r:Rel σ E) (ho:o.op=.binOp op t x y t'):E9 P E o K:=by
 unfold Iv at h;split at h
 ·rename_i k a k' b hx hy;split at h
  ·exact Qe h ho (ovc r hx) (ovc r hy)
  ·split at h
   ·rename_i hk;obtain rfl:=ε hk;exact Qd h ho (ovc r hx) (ovc r hy)
   ·exact h.elim
 ·rename_i c d hx hy;split at h
  ·exact .mk (λF=>PY ho (ovc r hx) (ovc r hy) h.1) h.2
  ·exact .mk (λF=>PZ ho (ovc r hx) (ovc r hy)) h
  ·exact .mk (λF=>P0 ho (ovc r hx) (ovc r hy)) h
  ·exact .mk (λF=>PM ho (ovc r hx) (ovc r hy)) h
  ·exact .mk (λF=>PN ho (ovc r hx) (ovc r hy)) h
  ·exact h.elim
 ·rename_i a hx hy;split at h
  ·rename_i ht;exact .mk (λF=>yL ho (bz r hx rfl) (ovc r hy) ht) h
  ·rename_i ht;exact .mk (λF=>yM ho (bz r hx rfl) (ovc r hy) ht) h
  ·exact h.elim
 ·rename_i i p hx hy;split at h
  ·rename_i ht;exact .mk (λF=>yL ho (bz r hx rfl) (ovc r hy) ht) h
  ·rename_i ht;exact .mk (λF=>yM ho (bz r hx rfl) (ovc r hy) ht) h
  ·exact h.elim
 ·rename_i b l c hx hy;split at h
  ·rename_i ht;exact .mk (λF=>AX (s:=⟨b,l,c⟩) ho (ovc r hx) (ovc r hy) ht) h
  ·rename_i ht;exact .mk (λF=>AY (s:=⟨b,l,c⟩) ho (ovc r hx) (ovc r hy) ht) h
  ·exact h.elim
 ·rename_i c d hx hy;split at h
  ·rename_i ht;obtain ⟨v,h1,h2⟩:=h;exact .mk (λF=>LC ho (ovc r hx) (ovc r hy) ht (h1 F)) h2
  ·rename_i ht;obtain ⟨v,h1,h2⟩:=h;exact .mk (λF=>LD ho (ovc r hx) (ovc r hy) ht (h1 F)) h2
  ·exact h.elim
 ·split at h
  ·rename_i a b ht ha hb;split at h
   ·exact .mk (λF=>PK ho (bz r rfl (xn ha)) (bz r rfl (xn hb)) ht) h
   ·exact .mk (λF=>PL ho (bz r rfl (xn ha)) (bz r rfl (xn hb)) ht) h
   ·exact h.elim
  ·exact h.elim
end
section
variable {P:Program} {σ:Sy} {E:En} {F:PH} {x y:Operand} {o:Oper}
theorem Vk {α β:Type} {f:α->β} {l:List α} {a b:β} (h:l.map f=[a,b]):∃x y,l=[x,y]/\f x=a/\f y=b:=by
 rcases l with _|⟨x,_|⟨y,_|⟨z,l⟩⟩⟩<;>simp at h
 exact ⟨x,y,rfl,h⟩
theorem Vl {α β:Type} {f:α->β} {l:List α} {a b c:β} (h:l.map f=[a,b,c]):∃x y z,l=[x,y,z]/\f x=a/\f y=b/\f z=c:=by
 rcases l with _|⟨x,_|⟨y,_|⟨z,_|⟨u,l⟩⟩⟩⟩<;>simp at h
 exact ⟨x,y,z,rfl,h⟩
theorem eT {b:Bool} {K:Prop} (h:okN b K):b=ZT/\K:=by cases b;exact h.elim;exact ⟨rfl,h⟩
theorem xo {d:TypeDesc} (h:kdD d=.agg):kY d=ZT:=by cases d<;>simp [kdD] at h<;>rfl
theorem qH {d:TypeDesc} (h:kdD d≠.agg):kY d=ZQ:=by cases d<;>first|rfl|exact absurd rfl h
theorem LM {t:TypeId} {a:Addr} {K:NV->(PH->Prop)->Prop} (h:P5 P t a F K) (r:Rel σ E) (ho:o.op=.load t x) (hx:ev E x=.pointer (ZO a)):
  ∃nv v c,c F/\(∀F':PH,c F'->RD P E F' o v)/\(∀T,jM T nv v)/\K nv c:=by
 unfold P5 at h;split at h
 ·exact h.elim
 ·rename_i d hd;split at h
  ·rename_i hk;split at h
   ·rename_i n b hz;obtain ⟨v,rfl,hr,h⟩:=h;exact ⟨.sv (.c (.agg v)),.agg v,λF=>F.row a v,hr,λF' hr=>Lu ho hx hd (xo hk) hz hr,λ_=>rfl,h⟩
   ·exact h.elim
  ·rename_i hk;obtain ⟨v,hc,h⟩:=h;exact ⟨_,_,_,hc,λF' hc=>Lm ho hx hd (qH hk) hc,λ_=>tw _ v,h⟩
theorem iV {y:Option Operand} {dflt:Nat} {K:Nat->Prop} (h:xm σ y dflt K) (r:Rel σ E):∃l,dQ (y.map (ev E)) dflt l/\K l:=by
 unfold xm at h;split at h
 ·exact ⟨dflt,w9,h⟩
 ·rename_i y;split at h
  ·rename_i k i hw;split at h
   ·split at h
    ·rename_i hi;exact ⟨_,Oq (ovc r hw) (ε hi),h⟩
    ·exact h.elim
   ·exact ⟨_,Oq (ovc r hw) h.1,h.2⟩
  ·exact h.elim
theorem tz {place:Nat->Option (Nat×Nat)} {n:Nat} (r:Rel σ E):∀(l:List (Nat×Operand)) (cs:Array Value) {K:Array Value->Prop},cs.size=n->bld σ place n l cs K->
  ∃res,Instr.fill place cs (l.map λp=>(p.1,ev E p.2))=ZO res/\K res
 |[],cs,K,_,h=>⟨cs,rfl,h⟩
 | (i,x)::l,cs,K,hn,h=>by
  unfold bld at h;split at h
  ·exact h.elim
  ·rename_i off s hp;have one:∀{v:Value},ev E x=v->v.cells= #[v]->Nat.beq s 1=ZT->Nat.blt off n=ZT->bld σ place n l (cs.setIfInBounds off v) K->
     ∃res,Instr.fill place cs (((i,x)::l).map λp=>(p.1,ev E p.2))=ZO res/\K res:=by
    clear h;intro v hx hc hs ho h;obtain rfl:=Y4 hs;obtain ⟨res,h1,h2⟩:=tz r l _ (by simpa using hn) h;refine ⟨res,?_,h2⟩;rw [Yf];show Instr.fill place cs ((i,ev E x)::_)=_;rw [hx];exact On hp hc (by rw [hn];exact ho) h1
   split at h
   ·rename_i c hw;split at h
    ·rename_i ho;obtain ⟨hs,h⟩:=h;obtain ⟨res,h1,h2⟩:=tz r l _ (by rw [ee];exact hn) h;refine ⟨res,?_,h2⟩;rw [Yf];show Instr.fill place cs ((i,ev E x)::_)=_;rw [ovc r hw];exact Oo hp hs (by rw [hn];exact ho) h1
    ·exact h.elim
   ·rename_i v hna hw;split at h
    ·rename_i h1 h2;exact one (ovc r hw) (by cases v<;>first|rfl|exact absurd rfl (hna _)) h1 h2 h
    ·exact h.elim
   ·exact h.elim
   ·rename_i w hna hnc hnn;split at h
    ·rename_i v h1 h2 hv;refine one (bz r rfl hv) ?_ h1 h2 h;cases hw:σ.ov x<;>rw [hw] at hv<;>simp only [VW.val] at hv<;>first|(cases hv;done)|(cases hv;rfl)|(exact absurd hw (hna _))|(exact absurd hw (hnc _))|exact absurd hw (hnn _)
    ·exact h.elim
variable {K:RK}
theorem A6.of (r:Rel σ E) (h:E9 P E o λv=>K σ v ZR):A6 P E F o K:=by obtain ⟨nv,v,h1,h2,h3⟩:=h;exact .pure h1 r h3 (h2 _)
theorem IB (h:sxR P σ o F K) (r:Rel σ E):A6 P E F o K:=by
 cases ho:o.op<;>simp only [sxR,ho] at h<;>try exact h.elim
 case move x=>exact .pure (λF=>PJ ho rfl) r h (u7 r x)
 case assign x=>exact .pure (λF=>HX ho rfl) r h (u7 r x)
 case pick c a b=>
  split at h
  ·rename_i hc;exact .pure (λF=>wX ho (bz r hc rfl) (λ_=>rfl) (λh=>by cases h)) r h (u7 r a)
  ·rename_i hc;exact .pure (λF=>wX ho (bz r hc rfl) (λh=>by cases h) (λ_=>rfl)) r h (u7 r b)
  ·exact h.elim
 case nilCheck x=>
  split at h
  ·rename_i hw;refine .pure (λF=>yK ho (ovc r hw)) r h ?_;show okV _ _ _;rw [<- ovc r hw];exact u7 r x
  ·obtain ⟨σ',a,r',hx,h⟩:=ln h r;exact .pure (λF=>AV ho hx) r' h rfl
 case extract x i=>
  split at h
  ·rename_i vs hw;split at h
   ·rename_i v hv;exact .pure (λF=>uV ho (ovc r hw) hv) r h (Iz _ v)
   ·exact h.elim
  ·rename_i w hw;obtain ⟨v,hv,h⟩:=h;exact .pure (λF=>uV ho (bz r hw rfl) hv) r h (tw _ v)
  ·exact h.elim
 case fieldAddr t x i=>
  split at h
  ·rename_i fs ht;split at h
   ·rename_i f hf;split at h
    ·rename_i s b hz;obtain ⟨σ',a,r',hx,h⟩:=ln h r;exact .pure (λF=>yN ho hx ht hf hz (by omega)) r' h rfl
    ·exact h.elim
   ·exact h.elim
  ·exact h.elim
 case load t x=>
  obtain ⟨σ',a,r',hx,h⟩:=ln h r;obtain ⟨nv,v,c,h1,h2,h3,h⟩:=LM h r' ho hx;exact .chk h1 h2 r' h (h3 _)
 case indexAddr t x y=>
  split at h
  ·rename_i k i e hy ht;split at h
   ·rename_i ZK len cap s b hx hz;obtain ⟨a,rfl,h1,h2,h⟩:=h;exact .pure (λF=>tX ho (ovc r hx) (ovc r hy) ht hz h1 (by exact_mod_cast h2)) r h rfl
   ·exact h.elim
  ·rename_i k i n e hy ht;split at h
   ·rename_i s b hz;obtain ⟨σ',a,r',hx,h1,h2,h⟩:=ln h r;exact .pure (λF=>tY ho hx (ovc r hy) ht hz h1 (by exact_mod_cast h2)) r' h rfl
   ·exact h.elim
  ·exact h.elim
 case index t x y=>
  split at h
  ·rename_i s k i hx hy ht;obtain ⟨h1,h2,h3,v,rfl,h⟩:=h;exact .pure (λF=>AZ ho (ovc r hx) (ovc r hy) ht h1 (by exact_mod_cast h2)) r h rfl
  ·rename_i cs k i n e hx hy ht;split at h
   ·rename_i d s b hd hz;split at h
    ·exact h.elim
    ·rename_i hk;obtain ⟨h1,h2,v,hv,h⟩:=h;exact .pure (λF=>yO ho (ovc r hx) (ovc r hy) ht hz hd (qH hk) h1 (by exact_mod_cast h2) hv) r h (tw _ v)
   ·exact h.elim
  ·exact h.elim
 case field t x i=>
  split at h
  ·rename_i cs fs hx ht;split at h
   ·rename_i f hf;split at h
    ·rename_i d s b hd hz;split at h
     ·rename_i hk;exact .pure (λF=>Ib ho (ovc r hx) ht hf hd (xo hk) hz) r h rfl
     ·rename_i hk;obtain ⟨v,hv,h⟩:=h;exact .pure (λF=>Ia ho (ovc r hx) ht hf hd (qH hk) hv) r h (tw _ v)
    ·exact h.elim
   ·exact h.elim
  ·exact h.elim
 case binOp op t x y t'=>exact .of r (IA h r ho)
 case unOp op t x=>
  split at h
  ·rename_i b hx;exact .pure (λF=>HZ ho (bz r hx rfl)) r h rfl
  ·rename_i i b hx;exact .pure (λF=>HZ ho (bz r hx rfl)) r h rfl
  ·rename_i i p d hx;refine .pure (v:=.bool (@decide (¬p) (@instDecidableNot p d))) (λF=> ?_) r h rfl;have:=HZ (P:=P) (F:=F) ho (bz r hx rfl);rw [show (!@decide p d)= @decide (¬p) (@instDecidableNot p d) by cases d<;>rfl] at this;exact this
  ·rename_i k a hx;exact .pure (λF=>UX ho (ovc r hx)) r h rfl
  ·exact h.elim
 case convert t t' x=>
  split at h
  ·rename_i k a d k' hx ht ht';exact .pure (λF=>EU ho (ovc r hx) ht ht') r h rfl
  ·rename_i b l c e hx ht ht';split at h
   ·rename_i he;obtain ⟨s,hs,h⟩:=h;exact .chk hs (λF' hs=>It ho (ovc r hx) ht ht' he ⟨_,_,_,rfl⟩ hs) r h rfl
   ·exact h.elim
  ·exact h.elim
 case slice t x lo hi mx=>
  split at h
  ·rename_i e ht;split at h
   ·rename_i b len cap sz z hx hz;obtain ⟨l,hl,h⟩:=iV h r;obtain ⟨u,hu,h1,h2,h⟩:=iV h r;exact .pure (λF=>EW (s:=⟨b,len,cap⟩) ho (ovc r hx) ht hz hl hu h1 h2) r h rfl
   ·exact h.elim
  ·rename_i ht;split at h
   ·rename_i s hx;obtain ⟨l,hl,h⟩:=iV h r;obtain ⟨u,hu,h1,h2,h⟩:=iV h r;exact .pure (λF=>A1 ho (ovc r hx) ht hl hu h1 h2) r h rfl
   ·exact h.elim
  ·rename_i n e ht;split at h
   ·rename_i sz z hz;obtain ⟨σ',a,r',hx,h⟩:=ln h r;exact .pure (λF=>uZ ho hx ht hz w9 w9 (Zj _) (XS _)) r' h rfl
   ·rename_i sz z hz hnn;obtain ⟨σ',a,r',hx,h⟩:=ln h r;obtain ⟨l,hl,h⟩:=iV h r';obtain ⟨u,hu,h1,h2,h⟩:=iV h r';exact .pure (λF=>uZ ho hx ht hz hl hu h1 h2) r' h rfl
   ·exact h.elim
  ·rename_i e m ht;split at h
   ·rename_i b len cap sz z k i k' m' hx hz hhi hm;obtain ⟨l,hl,h0,hm0,h1,h2,h3,h⟩:=iV h r;cases hi with
    |none=>simp at hhi
    |some hi=>simp only [YD,Option.some.injEq] at hhi;exact .pure (λF=>A0 (s:=⟨b,len,cap⟩) ho (ovc r hx) ht hz hl (ovc r hhi) (ovc r hm) h0 hm0 h1 h2 h3) r h rfl
   ·exact h.elim
  ·exact h.elim
 case build t parts=>
  split at h
  ·rename_i fs z ht hz;obtain ⟨hk,h⟩:=eT h;obtain ⟨res,h1,h⟩:=tz r _ _ rfl h;exact .pure (λF=>tZ ho ht hz hk (by simp) h1) r h rfl
  ·rename_i n e z ht hz;split at h
   ·rename_i s b hs;obtain ⟨res,h1,h⟩:=tz r _ _ rfl h;exact .pure (λF=>wY ho ht hz hs (by simp) h1) r h rfl
   ·exact h.elim
  ·exact h.elim
 case makeFunc fn first cap=>
  cases fn<;>simp only at h<;>try exact h.elim
  obtain ⟨us,h1,h⟩:=kj r _ h;obtain ⟨vs,h2,h⟩:=kj r _ h;have h1':first.map (ev E)=us.toArray:=by rw [<- h1,<- Array.toList_map,Array.toArray_toList]
  have h2':cap.map (ev E)=vs.toArray:=by rw [<- h2,<- Array.toList_map,Array.toArray_toList]
  exact .pure (λF=>AW ho h1' h2') r h rfl
 case lookup t x y ok=>
  split at h
  ·rename_i u v kt e hu hv ht;split at h
   ·obtain ⟨q,b,h1,h⟩:=h;exact .chk h1 (λF' h1=>yR ho (bz r rfl hu) (bz r rfl hv) h1) r h rfl
   ·obtain ⟨q,h1,h⟩:=h;exact .chk h1 (λF' h1=>yR ho (bz r rfl hu) (bz r rfl hv) h1) r h (tw _ q)
  ·exact h.elim
 case entry x=>
  split at h
  ·rename_i u hu;obtain ⟨w,h1,h⟩:=h;exact .chk h1 (λF' h1=>LF ho (bz r rfl hu) h1) r h rfl
  ·exact h.elim
 case call c=>
  obtain ⟨cal,args,ts⟩:=c;obtain ⟨args⟩:=args;obtain ⟨ts⟩:=ts;cases cal<;>simp only at h<;>try exact h.elim
  rename_i b;split at h
  ·rename_i bs l cp t heq;obtain ⟨x,rfl,hx⟩:=Y3.1 heq;split at h
   ·rename_i ht;exact .pure (λF=>Lj (s:=⟨bs,l,cp⟩) ho (ovc r hx) ht) r h rfl
   ·exact h.elim
  ·rename_i s t heq;obtain ⟨x,rfl,hx⟩:=Y3.1 heq;split at h
   ·rename_i ht;exact .pure (λF=>H0 ho (ovc r hx) ht) r h rfl
   ·exact h.elim
  ·rename_i m t heq;obtain ⟨x,rfl,hx⟩:=Y3.1 heq;obtain ⟨v,h1,h⟩:=h;exact .chk h1 (λF' h1=>Iu ho (ovc r hx) h1) r h rfl
  ·rename_i bs l cp t heq;obtain ⟨x,rfl,hx⟩:=Y3.1 heq;split at h
   ·rename_i ht;exact .pure (λF=>Ll (s:=⟨bs,l,cp⟩) ho (ovc r hx) ht) r h rfl
   ·exact h.elim
  ·rename_i k a k' b' heq;obtain ⟨x,y,rfl,hx,hy⟩:=Vk heq;obtain ⟨hk,h'⟩:=eT h;obtain rfl:=ε hk;exact .pure (λF=>PO ho (ovc r hx) (ovc r hy)) r h' rfl
  ·rename_i k a k' b' heq;obtain ⟨x,y,rfl,hx,hy⟩:=Vk heq;obtain ⟨hk,h'⟩:=eT h;obtain rfl:=ε hk;exact .pure (λF=>PP ho (ovc r hx) (ovc r hy)) r h' rfl
  ·rename_i k a k' b' k'' c' heq;obtain ⟨x,y,z,rfl,hx,hy,hz⟩:=Vl heq;obtain ⟨hk,h'⟩:=eT h;obtain ⟨rfl,rfl⟩:=ε hk;exact .pure (λF=>PQ ho (ovc r hx) (ovc r hy) (ovc r hz)) r h' rfl
  ·rename_i k a k' b' k'' c' heq;obtain ⟨x,y,z,rfl,hx,hy,hz⟩:=Vl heq;obtain ⟨hk,h'⟩:=eT h;obtain ⟨rfl,rfl⟩:=ε hk;exact .pure (λF=>PR ho (ovc r hx) (ovc r hy) (ovc r hz)) r h' rfl
  ·exact h.elim
end
theorem Qf {F:PH} {b:Nat} {o:Obj} (hb:F b=ZR):F.le (F.set b o):=λx u hx=>by
 have:x≠b:=λe=>by rw [e,hb] at hx;cases hx
 rw [A3 _ _ this];exact hx
section
variable {P:Program} {σ:Sy} {E:En} {F:PH} {x y z:Operand} {o:Oper}
def KK (F:PH) (E:En) (o:Oper) (K:EK) (E':En) (F':PH):Prop:=∃fl σ',(fl=ZT->F.le F')/\Rel σ' E'/\(∀t,o.dst≠ZO t->E' t=E t)/\K fl σ' F'
def Qg (P:Program) (E:En) (F:PH) (o:Oper) (K:EK):Prop:=aH P (execOp (ev E) o) F (bM P (KK F E o K) o E)
theorem qI {d:Option Tmp} {v:Value} {t:Nat} (h:d≠ZO t):cZ E d v t=E t:=by
 cases d with
 |none=>rfl
 |some d=>simp only [cZ,upd,kX (λe:t=d=>h (by rw [e]))];rfl
variable {K:EK}
theorem KK.mk {nv:NV} {v:Value} {F':PH} {fl:Bool} (r:Rel σ E) (h:K fl (σ.putO o.dst nv) F') (hv:jM σ.T nv v) (hl:fl=ZT->F.le F'):KK F E o K (cZ E o.dst v) F':=
 ⟨fl,_,hl,r.putO hv,λ_ ht=>qI ht,h⟩
theorem KK.f {nv:NV} {v:Value} {F':PH} (r:Rel σ E) (h:K ZQ (σ.putO o.dst nv) F') (hv:jM σ.T nv v):KK F E o K (cZ E o.dst v) F':=KK.mk r h hv (λh=>by cases h)
theorem iW {ob:Obj} {s:Nat->SV} {v:Nat->Value} (h:sxN σ o.dst ob s F K) (r:Rel σ E) (hv:∀b,okV σ.T (s b) (v b)):∀b,F b=ZR->KK F E o K (cZ E o.dst (v b)) (F.set b ob):=
 λb hb=>KK.mk r (atE (h b hb)) (hv b) (λ_=>Qf hb)
theorem LN {d:Option Tmp} {t:TypeId} {v:Value} {K:Sy->Prop} (h:yW P σ d t v K) (r:Rel σ E):∃σ',Rel σ' (cZ E d v)/\K σ':=by
 unfold yW at h;split at h
 ·exact ⟨σ,r,h⟩
 ·rename_i d;split at h
  ·split at h
   ·obtain ⟨rfl,h⟩:=h;exact ⟨_,r.put (show jM σ.T (.sv (.c (.tuple _))) _ from rfl),h⟩
   ·obtain ⟨a,rfl,h⟩:=h;exact ⟨_,r.put (show jM σ.T (.sv (.c (.tuple _))) _ from rfl),h⟩
   ·obtain ⟨a,b,rfl,h⟩:=h;exact ⟨_,r.put (show jM σ.T (.sv (.c (.tuple _))) _ from rfl),h⟩
   ·obtain ⟨a,b,c,rfl,h⟩:=h;exact ⟨_,r.put (show jM σ.T (.sv (.c (.tuple _))) _ from rfl),h⟩
   ·obtain ⟨a,b,c,e,rfl,h⟩:=h;exact ⟨_,r.put (show jM σ.T (.sv (.c (.tuple _))) _ from rfl),h⟩
   ·exact h.elim
  ·obtain ⟨a,rfl,h⟩:=h;exact ⟨_,r.put (tw _ a),h⟩
theorem A7 {t:TypeId} {v:Value} {F':PH} (h:yW P σ o.dst t v λσ=>K ZQ σ F') (r:Rel σ E):KK F E o K (cZ E o.dst v) F':=by obtain ⟨σ',r',h⟩:=LN h r;exact ⟨ZQ,σ',(λh=>by cases h),r',λ_ ht=>qI ht,h⟩
theorem qJ {w:VW} {v:Value} (hv:w.val=ZO v) (h1:∀c,w≠.c (.agg c)) (h2:∀u,w≠.any u):v.cells= #[v]:=by
 cases w<;>simp only [VW.val] at hv<;>first|(cases hv;done)|(cases hv;rfl)|exact absurd rfl (h2 _)|skip
 rename_i u;cases hv;cases v<;>first|rfl|exact absurd rfl (h1 _)
theorem IC {w:VW} {v:Value} (hv:w.val=ZO v) (h1:∀c,w≠.c (.agg c)) (h2:∀u,w≠.any u) (h3:∀u,w≠.c (.tuple u)) (h4:∀u,w≠.vt u) (h5:w≠.und):am v:=by
 cases w<;>simp only [VW.val] at hv<;>first|(cases hv;done)|exact absurd rfl (h2 _)|exact absurd rfl (h4 _)|exact absurd rfl h5|skip
 all_goals cases hv
 case c.refl=>exact ⟨λc e=>h1 c (by rw [e]),λc e=>h3 c (by rw [e])⟩
 all_goals exact ⟨(λ_ h=>by cases h),(λ_ h=>by cases h)⟩
theorem DJ (r:Rel σ E):∀(l:List (Nat×Operand)) (k:Nat) {us:List Value},LI σ k l=ZO us->(l.map λp=>(p.1,ev E p.2))=DE k us/\LA us/\us.length=l.length
 |[],k,us,h=>by cases h;exact ⟨rfl,trivial,rfl⟩
 | (i,x)::l,k,us,h=>by
  unfold LI at h;split at h
  ·cases h
  ·cases h
  ·rename_i hi h1 h2;split at h
   ·rename_i v vs hv hs;cases h;obtain ⟨e1,e2,e3⟩:=DJ r l _ hs;obtain rfl:=Y4 hi;refine ⟨?_,⟨qJ hv (λc e=>h1 c e) (λu e=>h2 u e),e2⟩,by simp [e3]⟩;rw [Yf,e1];show (i,ev E x)::_=(i,v)::_;rw [bz r rfl hv]
   ·cases h
  ·cases h
theorem ID {t:TypeId} {s:ByteArray} {K:En->PH->Prop} (ho:o.op=.range t x) (hx:ev E x=.string s) (h1:P.underlying t=ZO .string) (h:∀b,F b=ZR->K (cZ E o.dst (.pointer (ZO ⟨b,0,ZR⟩))) (F.set b (.stringIter s 0))):
  aH P (execOp (ev E) o) F (bM P K o E):=by
 simp only [execOp,ho,hx,Instr.range,aD,ca h1,aL,newObj,aH,bM];exact h
theorem IE {t:TypeId} {v:Value} {K:En->PH->Prop} (ho:o.op=.range t x) (hx:ev E x=v) (h:aH P (Instr.range t v) F λr F'=>K (cZ E o.dst r) F'):aH P (execOp (ev E) o) F (bM P K o E):=by simp only [execOp,ho,hx,aD,aL,bM];exact h
theorem Qh {v:Value} {is:Bool} {K:En->PH->Prop} (ho:o.op=.next x is) (hx:ev E x=v) (h:aH P (Instr.next v is o.type) F λr F'=>K (cZ E o.dst r) F'):aH P (execOp (ev E) o) F (bM P K o E):=by simp only [execOp,ho,hx,aD,aL,bM];exact h
theorem IF {t:TypeId} {u v q:Value} {K:En->PH->Prop} (ho:o.op=.insert t x y z) (hx:ev E x=u) (hy:ev E y=v) (hz:ev E z=q)
  (h:aH P (Instr.mapUpdate t u v q) F λ_ F'=>K (cZ E o.dst undef) F'):aH P (execOp (ev E) o) F (bM P K o E):=by
 subst hx hy hz;have:execOp (ev E) o=execOp (ev E) {o with op:=.mapUpdate t x y z}:=by simp only [execOp,ho]
 rw [this];exact oS (o:={o with op:=.mapUpdate t x y z}) rfl rfl rfl rfl h
theorem IG {ts:Array TypeId} {u v:Value} {K:En->PH->Prop} (ho:o.op=.call ⟨.builtin .delete,#[x,y],ts⟩) (hx:ev E x=u) (hy:ev E y=v) (h:aH P (Builtin.delete_ ts o.type #[u,v]) F λr F'=>K (cZ E o.dst r) F'):
  aH P (execOp (ev E) o) F (bM P K o E):=by
 simp [execOp,ho,resolve,hx,hy,invoke,builtin,bM];exact h
theorem IH (h:sxE P σ o F K) (r:Rel σ E):Qg P E F o K:=by
 cases ho:o.op<;>simp only [sxE,ho] at h<;>try exact h.elim
 case alloc t=>
  split at h
  ·rename_i z hz;exact Lw ho hz (iW h r (λ_=>rfl))
  ·exact h.elim
 case box t x=>
  split at h
  ·rename_i c hw;exact Ic ho (ovc r hw) (iW h r (λ_=>rfl))
  ·rename_i v hw;obtain ⟨hc,h⟩:=h;rw [<- hc] at h;exact Ic ho (bz r hw rfl) (iW h r (λ_=>rfl))
  ·rename_i h1 h2;split at h
   ·rename_i v hv;have hc:v.cells= #[v]:=qJ hv (λc e=>h1 c e) (λu e=>h2 u e);rw [<- hc] at h;exact Ic ho (bz r rfl hv) (iW h r (λ_=>rfl))
   ·exact h.elim
 case buildSlice t m parts=>
  split at h
  ·rename_i e ht;split at h
   ·rename_i s b z hz hzz;split at h
    ·rename_i hm hs h0;have hm':m*s<=16777216:=Zp hm;have hs':z.cells.size=s:=Y4 hs;split at h
     ·rename_i l h1 h2 hl;obtain rfl:=Y4 h1;obtain ⟨e1,e2,e3⟩:=DJ r _ _ hl;exact iR ho ht hz hm' hzz (by simpa using e1) (LB (by rw [e3];exact Y4 h2) rfl hs' e2) (by rw [hs']) (iW h r (λ_=>rfl))
     ·split at h
      ·rename_i c heq hn;obtain ⟨hcs,h⟩:=h;obtain ⟨p,hp,hpe⟩:=Y3.1 heq;obtain ⟨i,x⟩:=p;simp only [ZF] at hpe;obtain ⟨rfl,hx⟩:=hpe;exact iR (vs:=[(0,.agg c)]) ho ht hz hm' hzz (by simp [hp,ovc r hx]) (EX hcs hs' h0) (by rw [hs']) (iW h r (λ_=>rfl))
      ·obtain ⟨res,e1,h⟩:=tz r _ _ (by rw [<- qC _ (by rw [hs'];exact h0)];simp [Builtin.zeroCells,hs']) h;refine iR (vs:=parts.toList.map λp=>(p.1,ev E p.2)) ho ht hz hm' hzz (by simp) (cells:=res) ?_ (by rw [hs']) (iW h r (λ_=>rfl));rw [qC _ (by rw [hs'];exact h0)];exact e1
    ·exact h.elim
   ·exact h.elim
  ·exact h.elim
 case store t x y=>
  obtain ⟨σ',a,r',hx,h⟩:=ln h r;have st:∀{v:Value} {b:Nat},ev E y=v->tsz P t=ZO (1,b)->v.cells= #[v]->am v->sto F a v (λF=>K ZQ (σ'.putO o.dst (.sv .und)) F)->Qg P E F o K:=by intro v b hy hz hc hst ⟨c,e,h1,h2,h3,h4⟩;exact Id ho hx hy hz hc rfl hst h2 h1 h3 (KK.f r' (atE h4) rfl)
  split at h
  ·rename_i v n b hy hz;obtain ⟨h1,h2,c,e,h3,h4,h5,h6⟩:=h;refine Ie ho hx (ovc r' hy) hz h1 h2 (λh0=> ?_) h4 h3 h5 (KK.f r' (atE h6) rfl);have:v.toList.length=0:=by rw [h0];rfl
   simp at this;simp [this] at h1
  ·exact h.elim
  ·rename_i v b hna hnt hy hz;exact st (ovc r' hy) hz (qJ (w:=.c v) rfl (λc e=>hna c (by cases e;rfl)) (λu e=>by cases e)) (IC (w:=.c v) rfl (λc e=>hna c (by cases e;rfl)) (λu e=>by cases e) (λc e=>hnt c (by cases e;rfl)) (λu e=>by cases e) (λe=>by cases e)) h
  ·rename_i v b hy hz;exact st (bz r' hy rfl) hz h.2.1 h.1 h.2.2
  ·exact h.elim
  ·exact h.elim
  ·rename_i b hz h2 h3 h4 h5 h6 h7;split at h
   ·rename_i v hv;exact st (bz r' rfl hv) hz (qJ hv (λc e=>h2 c e) (λu e=>h5 u e)) (IC hv (λc e=>h2 c e) (λu e=>h5 u e) (λc e=>h3 c e) (λu e=>h6 u e) (λe=>h7 e)) h
   ·exact h.elim
  ·exact h.elim
 case range t x=>
  split at h
  ·rename_i s ht hx;exact ID ho (ovc r hx) ht (iW h r (λ_=>rfl))
  ·split at h
   ·rename_i v hv;exact IE ho (bz r rfl hv) (dr _ _ h λu F' ⟨b,hb,h⟩=>by subst hb;exact KK.f r h rfl)
   ·exact h.elim
  ·exact h.elim
 case next x is=>
  split at h
  ·rename_i v hv;exact Qh ho (bz r rfl hv) (dr _ _ h λu F' ⟨b,hb,h⟩=>by subst hb;exact KK.f r h rfl)
  ·exact h.elim
 case makeSlice t x y=>
  split at h
  ·rename_i u v hu hv;exact yQ ho (bz r rfl hu) (bz r rfl hv) (dr _ _ h λu F' ⟨b,hb,h⟩=>by subst hb;exact KK.f r h rfl)
  ·exact h.elim
 case makeMap t q=>
  cases q<;>simp only at h<;>try exact h.elim
  exact A4 ho (iW h r (λ_=>rfl))
 case mapUpdate t x y z=>
  split at h
  ·rename_i u v w hu hv hw;exact oS ho (bz r rfl hu) (bz r rfl hv) (bz r rfl hw) (dr _ _ h λu F' h=>KK.f r h rfl)
  ·exact h.elim
 case insert t x y z=>
  split at h
  ·rename_i u v w hu hv hw;exact IF ho (bz r rfl hu) (bz r rfl hv) (bz r rfl hw) (dr _ _ h λu F' h=>KK.f r h rfl)
  ·exact h.elim
 case defer c=>
  obtain ⟨cal,args,ts⟩:=c;obtain ⟨args⟩:=args;cases cal with
  |value g=>
   obtain ⟨us,h1,h⟩:=kj r _ h;split at h
   ·rename_i f a b hg;exact Lz ho (ovc r hg) (by rw [<- h1];simp) h.1 (KK.f r h.2 rfl)
   ·exact h.elim
  |_=>exact h.elim
 case call c=>
  obtain ⟨cal,args,ts⟩:=c;obtain ⟨args⟩:=args;cases cal with
  |invoke=>exact h.elim
  |builtin b=>
   simp only at h;split at h
   ·split at h
    ·rename_i x y u v hu hv;exact If ho (bz r rfl hu) (bz r rfl hv) (dr _ _ h λu F' ⟨b,hb,h⟩=>by subst hb;exact KK.f r h rfl)
    ·exact h.elim
   ·split at h
    ·rename_i x y u v hu hv;exact PT ho (bz r rfl hu) (bz r rfl hv) (dr _ _ h λu F' ⟨b,hb,h⟩=>by subst hb;exact KK.f r h rfl)
    ·exact h.elim
   ·split at h
    ·rename_i x y u v hu hv;exact IG ho (bz r rfl hu) (bz r rfl hv) (dr _ _ h λu F' h=>KK.f r h True.intro)
    ·exact h.elim
   ·exact h.elim
  |value g=>
   have cF:∀(h:xj σ args λvs=>(match σ.ov g with
     | .c (.func (.func f) a b)=>okN (aE P f) (aj P f (a++vs.toArray++b) F λv F=>yW P σ o.dst o.type v λσ=>K ZQ σ F)
     | .any u=>∃(k:Nat) (a b:Array Value),u=.func (.func k) a b/\aE P k=ZT/\aj P k (a++vs.toArray++b) F λv F=>yW P σ o.dst o.type v λσ=>K ZQ σ F
     |_=>False)),Qg P E F o K:=by
    intro h;obtain ⟨us,h1,h⟩:=kj r _ h;split at h
    ·rename_i f a b hg;obtain ⟨hc,h⟩:=eT h;exact DD ho (ovc r hg) hc (by rw [<- h1];simp) (h.mono λv F' h=>A7 h r)
    ·rename_i u hg;obtain ⟨f,a,b,rfl,hc,h⟩:=h;exact DD ho (bz r hg rfl) hc (by rw [<- h1];simp) (h.mono λv F' h=>A7 h r)
    ·exact h.elim
   cases g with
   |func f=>obtain ⟨us,h1,h⟩:=kj r _ h;obtain ⟨hc,h⟩:=eT h;exact PS ho hc (by rw [<- h1];simp) (h.mono λv F' h=>A7 h r)
   |_=>exact cF h
end
section
variable {P:Program} {σ:Sy} {E:En} {F:PH} {n:Nat} {ops:Array Oper}
def Fr (M:List Nat) (E E':En):Prop:=∀t,pk M t=ZQ->E' t=E t
theorem yX {a b:List Nat} {t:Nat}:pk (a++b) t=ZQ↔pk a t=ZQ/\pk b t=ZQ:=by
 induction a with
 |nil=>simp [pk]
 |cons x a ih=>simp only [YA,pk];cases Nat.beq t x<;>simp [ih]
theorem Fr.refl {M:List Nat} {E:En}:Fr M E E:=λ_ _=>rfl
theorem Fr.trans {M:List Nat} {E E' E'':En} (h:Fr M E E') (h':Fr M E' E''):Fr M E E'':=λt ht=>(h' t ht).trans (h t ht)
theorem Fr.left {a b:List Nat} {E E':En} (h:Fr a E E'):Fr (a++b) E E':=λt ht=>h t (yX.1 ht).1
theorem Fr.right {a b:List Nat} {E E':En} (h:Fr b E E'):Fr (a++b) E E':=λt ht=>h t (yX.1 ht).2
theorem tA {M:List Nat} {d:Nat} (h:d∈M) {t:Nat} (ht:pk M t=ZQ):t≠d:=by
 induction M with
 |nil=>cases h
 |cons x M ih=>
  simp only [pk] at ht;intro e;subst e;rcases XP.1 h with rfl|h
  ·have:Nat.beq t t=ZT:=by simp
   rw [this] at ht;cases ht
  ·cases hb:Nat.beq t x<;>rw [hb] at ht
   ·exact ih h ht rfl
   ·cases ht
theorem A8 {M:List Nat} {d:Option Tmp} {v:Value} (h:∀t,d=ZO t->t∈M):Fr M E (cZ E d v):=λt ht=>qI λe=>tA (h t e) ht rfl
theorem yY {l:List Oper} {o:Oper} {d:Nat} (ho:o∈l) (hd:o.dst=ZO d):d∈Iw l:=by
 induction l with
 |nil=>cases ho
 |cons x l ih=>
  unfold Iw;rcases XP.1 ho with rfl|ho
  ·rw [hd];exact YU ..
  ·split
   ·exact X8 _ (ih ho)
   ·exact ih ho
def QK (M:List Nat) (E0:En) (K:CK):Exit->En->PH->Prop:=λex E F=>(∃σ,Rel σ E/\K ex σ F)/\Fr M E0 E
inductive GOk (ops:Array Oper) (σ:Sy) (E:En) (o:Oper):G->Prop
 |go (h:Region.wanted o (yE ops E)=ZT):GOk ops σ E o .go
 |no (h:Region.wanted o (yE ops E)=ZQ):GOk ops σ E o .no
 |split (i:Nat) (b:SB) (want v:Bool) (hi:σ.T i=ZO b) (hv:b.v=.bool v) (h:Region.wanted o (yE ops E)=(v==want)):GOk ops σ E o (.split i b want)
 |bad:GOk ops σ E o .bad
theorem OC {j t:Nat} (hj:(ops[j]?).bind (·.dst)=ZO t):yE ops E j=(match E t with| .bool b=>ZO b|_=>ZR):=by unfold yE;rw [hj]<;>rfl
theorem dk (r:Rel σ E) {t:Nat} {w:VW} {v:Value} (hw:σ.vw t=w) (hv:w.val=ZO v):E t=v:=OB (r.val t) (by rw [<- hw] at hv;exact hv)
theorem A9 (r:Rel σ E) (o:Oper):GOk ops σ E o (grd ops σ o):=by
 unfold grd;split
 ·rename_i hg;exact .go (by unfold Region.wanted;rw [hg])
 ·rename_i j want hg;have hwn:∀y,Region.wanted o y=(y j==ZO want):=λy=>by unfold Region.wanted;rw [hg]
  split
  ·rename_i hn;refine .no ?_;rw [hwn];unfold yE;rw [hn];rfl
  ·rename_i t ht;have hb:∀{b:Bool},E t=.bool b->Region.wanted o (yE ops E)=(b==want):=by intro b hb;rw [hwn,OC ht,hb];cases b<;>cases want<;>rfl
   split
   ·rename_i b hw;have:=hb (dk r hw rfl);split
    ·rename_i hbw;exact .go (by rw [this];exact hbw)
    ·rename_i hbw;exact .no (by rw [this];exact hbw)
   ·rename_i hw;refine .no ?_;rw [hwn,OC ht,dk r hw rfl];rfl
   ·rename_i i b hw;exact .split i _ want b (Iy hw) rfl (hb (dk r hw rfl))
   ·rename_i i p d hw;exact .split i _ want _ (LL hw) rfl (hb (dk r hw rfl))
   ·exact .bad
theorem II {b:SB} {v:Bool} {f:Bool->Prop} (h:spl b f) (hv:b.v=.bool v):f v:=by
 unfold spl at h;split at h
 ·rename_i b;obtain rfl:b=v:=by simpa [SB.v] using hv
  cases b
  ·exact h.2 rfl
  ·exact h.1 rfl
 ·rename_i p d;have: @decide p d=v:=by simpa [SB.v] using hv
  cases v
  ·exact h.2 (η this)
  ·exact h.1 (ε this)
 ·exact h.elim
theorem Qi {Q:Exit->En->PH->Prop} {o:Oper} {l:List Oper} {K:Sy->PH->Prop} (hw:Region.wanted o (yE ops E)=ZT) (hd:fO n o.dst=ZT) (h:sxO P o K σ F) (r:Rel σ E)
  (k:∀σ' E' F',Rel σ' E'->(∀t,o.dst≠ZO t->E' t=E t)->K σ' F'->HL P n ops Q l E' F'):HL P n ops Q (o::l) E F:=by
 unfold sxO at h;split at h
 ·obtain ⟨σ',nv,ck,v,hy,r',hv,_,h⟩:=IB h r;exact UJ hy (k _ _ _ (r'.putO hv) (λ_ ht=>qI ht) h) hw hd
 ·have:=IH h r;refine Oh hw hd (dr _ _ this ?_);intro nx F' hn;cases nx with
  |value v=>obtain ⟨fl,σ',_,r',fr,h⟩:=hn;exact k _ _ _ r' fr h
  |skip=>obtain ⟨fl,σ',_,r',fr,h⟩:=hn;exact k _ _ _ r' fr h
  |enter f args=>exact hn.mono λv F' ⟨fl,σ',_,r',fr,h⟩=>k _ _ _ r' fr h
  |defer d=>obtain ⟨hi,fl,σ',_,r',fr,h⟩:=hn;exact ⟨hi,k _ _ _ r' fr h⟩
  |_=>exact hn
theorem Ba {M:List Nat} {E0:En} {K:CK}:∀(l:List Oper) (σ:Sy) (E:En) (F:PH),(∀o∈l,∀t,o.dst=ZO t->t∈M)->Fr M E0 E->sxL P n ops (K .normal) l σ F->Rel σ E->HL P n ops (QK M E0 K) l E F
 |[],σ,E,F,_,fr,h,r=>PG ⟨⟨σ,r,h⟩,fr⟩
 |o::l,σ,E,F,hM,fr,h,r=>by
  unfold sxL at h;obtain ⟨hd,h⟩:=eT h;have step:∀{σ:Sy},Rel σ E->Region.wanted o (yE ops E)=ZT->sxO P o (sxL P n ops (K .normal) l) σ F->HL P n ops (QK M E0 K) (o::l) E F:=λr hw h=>
   Qi hw hd h r λσ' E' F' r' hf h'=>Ba l σ' E' F' (λo ho=>hM o (X8 _ ho))
    (fr.trans λt ht=>hf t λe=>tA (hM o (YU ..) t e) ht rfl) h' r'
  have skip:∀{σ:Sy},Rel σ E->Region.wanted o (yE ops E)=ZQ->sxL P n ops (K .normal) l (σ.putO o.dst (.sv .und)) F->HL P n ops (QK M E0 K) (o::l) E F:=λr hw h=>
   KZ hw hd (Ba l _ _ F (λo ho=>hM o (X8 _ ho)) (fr.trans (A8 λt e=>hM o (YU ..) t e)) h (r.putO rfl))
  have g:=A9 (ops:=ops) r o;revert h g;cases grd ops σ o with
  |go=>intro h g;cases g with|go hw=>exact step r hw h
  |no=>intro h g;cases g with|no hw=>exact skip r hw h
  |bad=>intro h g;exact h.elim
  |split i b want=>
   intro h g;cases g with
   |split _ _ _ v hi hv hw=>
    have h:=II h hv;have r':Rel (σ.rf i (.lit v)) E:=r.rf hi hv;split at h
    ·rename_i hvw;exact step r' (by rw [hw];exact hvw) h
    ·rename_i hvw;exact skip r' (by rw [hw];exact hvw) h
end
end Go.Proofs.YtcemhghkipgdiaaGreatDoor.Rx
