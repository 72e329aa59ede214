/-
  A program logic over partial heaps. Part 3: what the single operations do. Operations that read at most (RD), operations that write or make memory.
-/
import Derived.Orders
import Derived.Tactics
import Derived.RowKit3
import Derived.OrdersHeld
import Derived.Scope
import Derived.Defers
namespace Go.Proofs.YtcemhghkipgdiaaGreatDoor
open Go
theorem N4:type_of%@Int.toNat_natCast:=@Int.toNat_natCast
theorem N5:type_of%@List.getElem?_eq_getElem:=@List.getElem?_eq_getElem
theorem N6:type_of%@List.getElem?_eq_some_iff:=@List.getElem?_eq_some_iff
theorem UT:type_of%@List.mem_cons:=@List.mem_cons
theorem UU:type_of%@List.mem_singleton:=@List.mem_singleton
theorem UV:type_of%@List.length_append:=@List.length_append
theorem UW:type_of%@Nat.le_refl:=@Nat.le_refl
theorem UX:type_of%@List.mem_append:=@List.mem_append
theorem UY:type_of%@List.mem_of_getElem?:=@List.mem_of_getElem?
theorem UZ:type_of%@List.take_of_length_le:=@List.take_of_length_le
theorem U3:type_of%@Bool.eq_iff_iff:=@Bool.eq_iff_iff
theorem U4:type_of%@Array.length_toList:=@Array.length_toList
theorem U5:type_of%@List.getElem?_map:=@List.getElem?_map
theorem U6:type_of%@List.length_map:=@List.length_map
theorem U7:type_of%@List.take_length:=@List.take_length
theorem U8:type_of%@List.mem_map:=@List.mem_map
theorem U9:type_of%@List.getElem?_append_left:=@List.getElem?_append_left
theorem Va:type_of%@List.length_singleton:=@List.length_singleton
theorem Vb:type_of%@List.length_take:=@List.length_take
theorem Vc:type_of%@List.eq_nil_of_length_eq_zero:=@List.eq_nil_of_length_eq_zero
theorem Vd:type_of%@Nat.zero_add:=@Nat.zero_add
theorem Ve:type_of%@List.mem_cons_of_mem:=@List.mem_cons_of_mem
theorem Vf:type_of%@List.length_cons:=@List.length_cons
theorem Vg:type_of%@List.take_append_of_le_length:=@List.take_append_of_le_length
theorem Vh:type_of%@List.take_succ_eq_append_getElem:=@List.take_succ_eq_append_getElem
theorem Vi:type_of%@List.map_cons:=@List.map_cons
theorem Vj:type_of%@Bool.and_eq_true_iff:=@Bool.and_eq_true_iff
theorem Vk:type_of%@Array.getElem?_eq_getElem:=@Array.getElem?_eq_getElem
theorem Vl:type_of%@Option.some.inj:=@Option.some.inj
theorem Vm:type_of%@List.map_append:=@List.map_append
theorem Vn:type_of%@List.getElem?_append_right:=@List.getElem?_append_right
theorem Vo:type_of%@List.append_assoc:=@List.append_assoc
theorem Vp:type_of%@List.nodup_append:=@List.nodup_append
theorem Vq:type_of%@Nat.pow_le_pow_right:=@Nat.pow_le_pow_right
theorem Vr:type_of%@List.getD_eq_getElem?_getD:=@List.getD_eq_getElem?_getD
theorem Vs:type_of%@Nat.mul_one:=@Nat.mul_one
theorem Vt:type_of%@List.nil_append:=@List.nil_append
theorem Vu:type_of%@Bool.false_eq_true:=@Bool.false_eq_true
theorem Vv:type_of%@List.all_eq_true:=@List.all_eq_true
theorem Vw:type_of%@List.length_range:=@List.length_range
theorem Vx:type_of%@List.append_nil:=@List.append_nil
theorem Vy:type_of%@List.getElem?_range:=@List.getElem?_range
theorem Vz:type_of%@List.drop_zero:=@List.drop_zero
theorem VA:type_of%@List.mem_range:=@List.mem_range
theorem VB:type_of%@Bool.and_eq_true:=@Bool.and_eq_true
theorem VC:type_of%@List.flatMap_cons:=@List.flatMap_cons
theorem VD:type_of%@Option.map_some:=@Option.map_some
theorem VF:type_of%@List.cons_append:=@List.cons_append
theorem VG:type_of%@List.getElem?_cons_succ:=@List.getElem?_cons_succ
theorem VH:type_of%@Int.tmod_eq_emod_of_nonneg:=@Int.tmod_eq_emod_of_nonneg
theorem VI:type_of%@List.ext_getElem?:=@List.ext_getElem?
theorem VJ:type_of%@Nat.testBit_lt_two_pow:=@Nat.testBit_lt_two_pow
theorem VK:type_of%@Nat.le_trans:=@Nat.le_trans
theorem VL:type_of%@Bool.or_eq_true:=@Bool.or_eq_true
theorem VM:type_of%@List.nodup_cons:=@List.nodup_cons
theorem VN:type_of%@List.getElem?_take_of_lt:=@List.getElem?_take_of_lt
theorem VO:type_of%@List.drop_length:=@List.drop_length
theorem VQ:type_of%@Nat.testBit_two_pow_mul_add:=@Nat.testBit_two_pow_mul_add
theorem VT:type_of%@Nat.eq_zero_or_pos:=@Nat.eq_zero_or_pos
theorem VU:type_of%@Nat.mod_lt:=@Nat.mod_lt
theorem VV:type_of%@Bool.eq_false_iff:=@Bool.eq_false_iff
theorem VX:type_of%@List.getElem?_eq_none:=@List.getElem?_eq_none
theorem VY:type_of%@List.mem_cons_self:=@List.mem_cons_self
theorem VZ:type_of%@List.any_eq_true:=@List.any_eq_true
theorem V0:type_of%@Nat.mul_le_mul_right:=@Nat.mul_le_mul_right
theorem V1:type_of%@List.length_eq_zero_iff:=@List.length_eq_zero_iff
theorem V2:type_of%@List.not_mem_nil:=@List.not_mem_nil
theorem V3:type_of%@Array.getD_eq_getD_getElem?:=@Array.getD_eq_getD_getElem?
theorem V4:type_of%@Bool.true_and:=@Bool.true_and
theorem V5:type_of%@Nat.zero_mul:=@Nat.zero_mul
theorem V6:type_of%@List.getElem?_set:=@List.getElem?_set
theorem V7:type_of%@List.take_add_one:=@List.take_add_one
theorem V8:type_of%@Int.tdiv_eq_ediv_of_nonneg:=@Int.tdiv_eq_ediv_of_nonneg
theorem V9:type_of%@List.map_eq_singleton_iff:=@List.map_eq_singleton_iff
theorem Wa:type_of%@Nat.eq_of_beq_eq_true:=@Nat.eq_of_beq_eq_true
theorem Wb:type_of%@List.take_append_drop:=@List.take_append_drop
theorem Wc:type_of%@Bool.false_ne_true:=@Bool.false_ne_true
theorem Wd:type_of%@List.getElem_mem:=@List.getElem_mem
theorem We:type_of%@Nat.sub_zero:=@Nat.sub_zero
theorem Wf:type_of%@Nat.succ_mul:=@Nat.succ_mul
theorem Wg:type_of%@List.getElem?_modify:=@List.getElem?_modify
theorem Wh:type_of%@List.mem_of_mem_take:=@List.mem_of_mem_take
theorem Wi:type_of%@List.take_zero:=@List.take_zero
theorem Wj:type_of%@List.mem_filter:=@List.mem_filter
theorem Wk:type_of%@List.map_congr_left:=@List.map_congr_left
theorem Wl:type_of%@List.length_pos_iff:=@List.length_pos_iff
theorem Wm:type_of%@List.flatMap_append:=@List.flatMap_append
theorem Wn:type_of%@Bool.or_eq_true_iff:=@Bool.or_eq_true_iff
theorem Wo:type_of%@Nat.add_zero:=@Nat.add_zero
theorem Wp:type_of%@Nat.one_mul:=@Nat.one_mul
theorem Wq:type_of%@Bool.not_eq_true:=@Bool.not_eq_true
theorem Wr:type_of%@Nat.lt_of_lt_of_le:=@Nat.lt_of_lt_of_le
theorem Ws:type_of%@Nat.pos_of_ne_zero:=@Nat.pos_of_ne_zero
theorem Wt:type_of%@Nat.le_of_ble_eq_true:=@Nat.le_of_ble_eq_true
theorem Wu:type_of%@Array.getElem?_toList:=@Array.getElem?_toList
theorem Wv:type_of%@List.range_succ:=@List.range_succ
theorem Ww:type_of%@List.forIn_cons:=@List.forIn_cons
theorem Wx:type_of%@List.size_toArray:=@List.size_toArray
theorem Wy:type_of%@Nat.add_mul:=@Nat.add_mul
theorem Wz:type_of%@List.mem_append_left:=@List.mem_append_left
theorem WA:type_of%@Nat.pow_succ:=@Nat.pow_succ
theorem WB:type_of%@Nat.pow_lt_pow_right:=@Nat.pow_lt_pow_right
theorem WC:type_of%@List.all_cons:=@List.all_cons
theorem WD:type_of%@Bool.false_or:=@Bool.false_or
theorem WE:type_of%@Nat.testBit_two_pow:=@Nat.testBit_two_pow
theorem WF:type_of%@List.drop_succ_cons:=@List.drop_succ_cons
theorem WG:type_of%@Nat.add_one_sub_one:=@Nat.add_one_sub_one
theorem WH:type_of%@List.mem_map_of_mem:=@List.mem_map_of_mem
theorem WI:type_of%@Bool.false_and:=@Bool.false_and
theorem WJ:type_of%@List.mem_flatMap:=@List.mem_flatMap
theorem WL:type_of%@List.prefix_refl:=@List.prefix_refl
theorem WM:type_of%@Bool.or_false:=@Bool.or_false
theorem WN:type_of%@Prod.mk.injEq:=@Prod.mk.injEq
theorem WO:type_of%@Int.le_refl:=@Int.le_refl
abbrev PH:=Nat->Option Obj
namespace PH
def set (F:PH) (b:Nat) (o:Obj):PH:=λx=>if x=b then some o else F x
def cell (F:PH) (a:Addr):Option Value:=
 match F a.block with
 |some (.cells c _ _)=>if a.spot.isSome then none else c[a.off]?
 |_=>none
def le (F G:PH):Prop:=∀b o,F b=some o->G b=some o
end PH
structure Ev where
 os:Os
 tape:Nat->Question->Nat
 output:Array (Nat×ByteArray)
 fr:PH
structure Sat (e:Ev) (w:World) (F:PH):Prop where
 os:w.os=e.os
 tape:w.tape=e.tape
 output:w.output=e.output
 heap:∀b o,F b=some o->w.heap[b]? =some o
 frame:∀b o,e.fr b=some o->F b=none/\w.heap[b]? =some o
def ak (v:Value):Prop:=(∀xs,v≠.agg xs)/\(∀xs,v≠.tuple xs)
def frz (fr:Nat×Nat) (i:Nat):Bool:=fr.1<=i && i<fr.2
def jJ:Obj->Option (TypeId×Nat)
 | .cells c e _=>some (e,c.size)
 |_=>none
def tT (o:Obj) (i:Nat):Bool:=
 match o with
 | .cells _ _ fr=>frz fr i
 |_=>false
def aG {α:Type} (P:Program):Sem α->PH->(α->PH->Prop)->Prop
 | .pure a,F,Q=>Q a F
 | .load _ a k,F,Q=>∃v,F.cell a=some v/\aG P (k v) F Q
 | .store _ a v k,F,Q=>ak v/\∃c e fr,F a.block=some (.cells c e fr)/\a.spot=none/\a.off<c.size/\frz fr a.off=false/\
   aG P k (F.set a.block (.cells (c.setIfInBounds a.off v) e fr)) Q
 | .new o k,F,Q=>∀b,F b=none->aG P (k b) (F.set b o) Q
 | .shape r k,F,Q=>∃o,F r=some o/\aG P (k (jJ o)) F Q
 | .freeze a n k,F,Q=>if n=0 then aG P k F Q else ∃c e fr,F a.block=some (.cells c e fr)/\
   aG P k (F.set a.block (.cells c e (if fr.1==fr.2 then (a.off,a.off+n) else (min fr.1 a.off,max fr.2 (a.off+n))))) Q
 | .frozen a k,F,Q=>∃o,F a.block=some o/\aG P (k (tT o a.off)) F Q
 | .getObj r k,F,Q=>∃o,F r=some o/\(∀c e fr,o≠.cells c e fr)/\aG P (k o) F Q
 | .setObj r o k,F,Q=>∃o',F r=some o'/\(∀c e fr,o'≠.cells c e fr)/\aG P k (F.set r o) Q
 | .choose q k,F,Q=>if q.forced then aG P (k 0) F Q else ∀t,aG P (k (q.cut t)) F Q
 | .sys _ _,_,_=>False
 | .program k,F,Q=>aG P (k P) F Q
 | .mark _ k,F,Q=>aG P k F Q
 | .halt _,_,_=>False
section
variable {e:Ev} {w:World} {F:PH}
theorem Sat.cell (h:Sat e w F) {a:Addr} {v:Value} (hc:F.cell a=some v):w.cell? a=some v:=by
 unfold PH.cell at hc;unfold World.cell?;split at hc
 ·rename_i c t fr hb;rw [h.heap _ _ hb];exact hc
 ·cases hc
theorem Sat.lt (h:Sat e w F) {b:Nat} {o:Obj} (hb:F b=some o):b<w.heap.size:=by have:=h.heap _ _ hb;exact (Array.getElem?_eq_some_iff.1 this).1
theorem Sat.fresh (h:Sat e w F):F w.heap.size=none:=by
 cases hb:F w.heap.size with
 |none=>rfl
 |some o=>exact absurd (h.lt hb) (by omega)
theorem Sat.push (h:Sat e w F) (o:Obj):Sat e {w with heap:=w.heap.push o} (F.set w.heap.size o):=by
 refine ⟨h.os,h.tape,h.output,λb o' hb=> ?_,λb o' hb=> ?_⟩
 ·unfold PH.set at hb;split at hb
  ·rename_i hbs;subst hbs;simpa using hb
  ·rename_i hbs;have h1:=h.heap _ _ hb;have h2:=h.lt hb;show (w.heap.push o)[b]? =some o';rw [Array.getElem?_push,if_neg (by omega)];exact h1
 ·obtain ⟨h1,h2⟩:=h.frame b o' hb;have hlt:=(Array.getElem?_eq_some_iff.1 h2).1;refine ⟨?_,?_⟩
  ·unfold PH.set;rw [if_neg (by omega)];exact h1
  ·show (w.heap.push o)[b]? =some o';rw [Array.getElem?_push,if_neg (by omega)];exact h2
theorem Sat.modify (h:Sat e w F) {r:Nat} {o o0:Obj} (hr:F r=some o0) (heap':Array Obj) (h1:heap'[r]? =some o) (h2:∀b,b≠r->heap'[b]? =w.heap[b]?):
  Sat e {w with heap:=heap'} (F.set r o):=by
 refine ⟨h.os,h.tape,h.output,λb o' hb=> ?_,λb o' hb=> ?_⟩
 ·unfold PH.set at hb;split at hb
  ·rename_i hbs;subst hbs;exact h1.trans hb
  ·rename_i hbs;exact (h2 b hbs).trans (h.heap _ _ hb)
 ·obtain ⟨h3,h4⟩:=h.frame b o' hb;have hb':b≠r:=λe=>by rw [e,hr] at h3;cases h3
  exact ⟨by unfold PH.set;rw [if_neg hb'];exact h3,(h2 b hb').trans h4⟩
theorem Sat.drawn (h:Sat e w F) (n:Nat):Sat e {w with drawn:=n} F:=⟨h.os,h.tape,h.output,h.heap,h.frame⟩
theorem yS {α:Type} {P:Program} {e:Ev} (s:Sem α):∀(F:PH) (w:World) (Q:α->PH->Prop),aG P s F Q->Sat e w F->
  ∃a w' F',s.run P w=.ok a w'/\Sat e w' F'/\Q a F':=by
 induction s with
 |pure a=>intro F w Q h hs;exact ⟨a,w,F,rfl,hs,h⟩
 |load m a k ih=>intro F w Q h hs;obtain ⟨v,hc,h⟩:=h;simp only [Sem.run,hs.cell hc];exact ih v F w Q h hs
 |store m a v k ih=>
  intro F w Q h hs;obtain ⟨⟨h1,h2⟩,c,t,fr,hb,hsp,hlt,hfr,h⟩:=h;have hheap:=hs.heap _ _ hb;have hcell:w.cell? a=some c[a.off]:=by simp [World.cell?,hheap,hsp,hlt]
  have hfz:w.frozen? a=false:=by obtain ⟨lo,hi⟩:=fr;simpa [World.frozen?,hheap,frz] using hfr
  have hrun:(Sem.store m a v k).run P w=k.run P (w.setCell a v):=by cases v<;>first|exact absurd rfl (h1 _)|exact absurd rfl (h2 _)|simp [Sem.run,hcell,hfz]
  rw [hrun];refine ih _ _ Q h ?_;have:w.setCell a v={w with heap:=(w.setCell a v).heap}:=rfl;rw [this];refine hs.modify hb _ ?_ (λb hb'=> ?_)
  ·simp [World.setCell,Array.getElem?_modify,hheap,hsp]
  ·simp only [World.setCell,Array.getElem?_modify];rw [if_neg (λh=>hb' h.symm)]
 |new o k ih=>intro F w Q h hs;exact ih _ _ _ Q (h _ hs.fresh) (hs.push o)
 |shape r k ih=>
  intro F w Q h hs;obtain ⟨o,hb,h⟩:=h;have hheap:=hs.heap _ _ hb;have:w.shape? r=(jJ o):=by unfold World.shape?;rw [hheap];cases o<;>simp [jJ]
  simp only [Sem.run,this];exact ih _ F w Q h hs
 |freeze a n k ih=>
  intro F w Q h hs;simp only [Sem.run,World.freeze];unfold aG at h;split at h
  ·rename_i hn;rw [if_pos hn];exact ih F w Q h hs
  ·rename_i hn;rw [if_neg hn];obtain ⟨c,t,fr,hb,h⟩:=h;have hheap:=hs.heap _ _ hb;refine ih _ _ Q h (hs.modify hb _ ?_ (λb hb'=> ?_))
   ·simp [Array.getElem?_modify,hheap]
   ·rw [Array.getElem?_modify,if_neg (λh=>hb' h.symm)]
 |frozen a k ih=>
  intro F w Q h hs;obtain ⟨o,hb,h⟩:=h;have hheap:=hs.heap _ _ hb;have:w.frozen? a=(tT o a.off):=by unfold World.frozen?;rw [hheap];cases o<;>simp [tT,frz]
  simp only [Sem.run,this];exact ih _ F w Q h hs
 |getObj r k ih=>
  intro F w Q h hs;obtain ⟨o,hb,hn,h⟩:=h;have hheap:=hs.heap _ _ hb;have:(Sem.getObj r k).run P w=(k o).run P w:=by cases o<;>first|exact absurd rfl (hn _ _ _)|simp only [Sem.run,hheap]
  rw [this];exact ih _ F w Q h hs
 |setObj r o k ih=>
  intro F w Q h hs;obtain ⟨o',hb,hn,h⟩:=h;have hheap:=hs.heap _ _ hb;have hlt:=hs.lt hb;have:(Sem.setObj r o k).run P w=k.run P {w with heap:=w.heap.setIfInBounds r o}:=by cases o'<;>first|exact absurd rfl (hn _ _ _)|simp only [Sem.run,hheap]
  rw [this];refine ih _ _ Q h (hs.modify hb _ ?_ (λb hb'=> ?_))
  ·simp [hlt]
  ·rw [Array.getElem?_setIfInBounds_ne (λh=>hb' h.symm)]
 |choose q k ih=>
  intro F w Q h hs;simp only [Sem.run];unfold aG at h;split
  ·rename_i hf;rw [if_pos hf] at h;exact ih _ F w Q h hs
  ·rename_i hf;rw [if_neg hf] at h;exact ih _ F _ Q (h _) (hs.drawn _)
 |sys c k ih=>intro F w Q h;exact h.elim
 |program k ih=>intro F w Q h hs;exact ih _ F w Q h hs
 |mark m k ih=>intro F w Q h hs;exact ih F w Q h hs
 |halt h=>intro F w Q h;exact h.elim
end
theorem tU {α β:Type} {P:Program} (s:Sem α) (f:α->Sem β):∀(F:PH) (Q:β->PH->Prop),
  aG P (s.bind f) F Q↔aG P s F (λa F'=>aG P (f a) F' Q):=by
 induction s with
 |pure a=>intro F Q;rfl
 |load m a k ih=>intro F Q;simp only [Sem.bind,aG,ih]
 |store m a v k ih=>intro F Q;simp only [Sem.bind,aG,ih]
 |new o k ih=>intro F Q;simp only [Sem.bind,aG,ih]
 |shape r k ih=>intro F Q;simp only [Sem.bind,aG,ih]
 |freeze a n k ih=>intro F Q;simp only [Sem.bind,aG,ih]
 |frozen a k ih=>intro F Q;simp only [Sem.bind,aG,ih]
 |getObj r k ih=>intro F Q;simp only [Sem.bind,aG,ih]
 |setObj r o k ih=>intro F Q;simp only [Sem.bind,aG,ih]
 |choose q k ih=>intro F Q;simp only [Sem.bind,aG,ih]
 |sys c k ih=>intro F Q;simp only [Sem.bind,aG]
 |program k ih=>intro F Q;simp only [Sem.bind,aG,ih]
 |mark m k ih=>intro F Q;simp only [Sem.bind,aG,ih]
 |halt h=>intro F Q;simp only [Sem.bind,aG]
theorem aA {α β:Type} {P:Program} (s:Sem α) (f:α->Sem β) (F:PH) (Q:β->PH->Prop):
  aG P (s>>=f) F Q↔aG P s F (λa F'=>aG P (f a) F' Q):=tU s f F Q
theorem dh {α:Type} {P:Program} (s:Sem α):∀(F:PH) {Q Q':α->PH->Prop},aG P s F Q->(∀a F,Q a F->Q' a F)->aG P s F Q':=by
 induction s with
 |pure a=>intro F Q Q' h hq;exact hq _ _ h
 |load m a k ih=>rintro F Q Q' ⟨v,h1,h⟩ hq;exact ⟨v,h1,ih v F h hq⟩
 |store m a v k ih=>rintro F Q Q' ⟨h1,c,e,fr,h2,h3,h4,h5,h⟩ hq;exact ⟨h1,c,e,fr,h2,h3,h4,h5,ih _ h hq⟩
 |new o k ih=>intro F Q Q' h hq b hb;exact ih _ _ (h b hb) hq
 |shape r k ih=>rintro F Q Q' ⟨o,h1,h⟩ hq;exact ⟨o,h1,ih _ F h hq⟩
 |freeze a n k ih=>
  intro F Q Q' h hq;unfold aG at h ⊢;split at h
  ·rename_i hn;rw [if_pos hn];exact ih F h hq
  ·rename_i hn;rw [if_neg hn];obtain ⟨c,e,fr,h1,h⟩:=h;exact ⟨c,e,fr,h1,ih _ h hq⟩
 |frozen a k ih=>rintro F Q Q' ⟨o,h1,h⟩ hq;exact ⟨o,h1,ih _ F h hq⟩
 |getObj r k ih=>rintro F Q Q' ⟨o,h1,h2,h⟩ hq;exact ⟨o,h1,h2,ih _ F h hq⟩
 |setObj r o k ih=>rintro F Q Q' ⟨o',h1,h2,h⟩ hq;exact ⟨o',h1,h2,ih _ h hq⟩
 |choose q k ih=>
  intro F Q Q' h hq;unfold aG at h ⊢;split at h
  ·rename_i hn;rw [if_pos hn];exact ih _ F h hq
  ·rename_i hn;rw [if_neg hn];exact λt=>ih _ F (h t) hq
 |sys c k ih=>intro F Q Q' h;exact h.elim
 |program k ih=>intro F Q Q' h hq;exact ih _ F h hq
 |mark m k ih=>intro F Q Q' h hq;exact ih F h hq
 |halt h=>intro F Q Q' h;exact h.elim
abbrev En:=Nat->Value
def upd (E:En) (d:Nat) (v:Value):En:=λt=>bif Nat.beq t d then v else E t
def cQ (E:En):Option Tmp->Value->En
 |some d,v=>upd E d v
 |none,_=>E
def ev (E:En):Operand->Value
 | .tmp t=>E t
 | .const v=>v
 | .global g=> .pointer (some ⟨g,0,none⟩)
 | .func f=> .func (.func f) #[] #[]
def Mh (args:List Value):En:=λt=>args.getD t undef
def yT (P:Program) (d:Deferred):Prop:=∃fv cap f args,d.target=.fn fv cap/\∀w,(invoke d.target d.args).run P w=.ok (.enter f args) w/\
 CallsD P f args .returning w λe u' w'=>(∃v,e=.returned v)/\u'=.returning/\w'=w
theorem jp {P:Program} {fn:Func} {tmps:Array Value} {w:World} {v:Value} {R:Ending->World->Prop} (hr:(results fn tmps).run P w=.ok v w) (hR:R (.returned v) w):
  ∀ds:List Deferred,(∀d∈ds,yT P d)->Leaves P fn tmps R ds .returning w
 |[],_=>⟨v,hr,hR⟩
 |d::ds,h=>by obtain ⟨fv,cap,f,args,h1,h2⟩:=h d (by simp);refine ⟨by simp,fv,cap,f,args,h1,(h2 w).1,(h2 w).2.mono ?_⟩;rintro e u' w' ⟨⟨v',rfl⟩,rfl,rfl⟩;exact jp hr hR ds λd hd=>h d (Ve _ hd)
structure Ag (P:Program) (n:Nat) (a:Act) (E:En):Prop where
 size:a.tmps.size=n
 defers:∀d∈a.defers,yT P d
 val:∀t,a.tmps.getD t undef=E t
theorem Ag.eval {P:Program} {n:Nat} {a:Act} {E:En} (h:Ag P n a E):a.eval=ev E:=by
 funext x;cases x with
 |tmp t=>exact h.val t
 |_=>rfl
def fI (n:Nat):Option Tmp->Bool
 |some d=>Nat.blt d n
 |none=>true
theorem kH {i j:Nat} (h:¬i=j):Nat.beq i j=false:=by
 cases hb:Nat.beq i j with
 |false=>rfl
 |true=>exact absurd (Wa hb) h
theorem Ag.put {P:Program} {n:Nat} {a:Act} {E:En} (h:Ag P n a E) {d:Option Tmp} (v:Value) (hd:fI n d=true):Ag P n (a.put d v) (cQ E d v):=by
 cases d with
 |none=>exact h
 |some d=>
  have hlt:d<n:=by simpa [fI,Nat.blt_eq] using hd
  refine ⟨by simp [Act.put,h.size],h.defers,λt=> ?_⟩;simp only [Act.put,cQ,upd];have hv:=h.val t;by_cases ht:t=d
  ·subst ht;simp [h.size,hlt]
  ·have:Nat.beq t d=false:=kH ht;simp only [this,cond_false];rw [<- hv];simp [Array.getElem?_setIfInBounds_ne (Ne.symm ht)]
def QL (P:Program) (e:Ev) (n:Nat) (Q:Exit->En->PH->Prop):Exit->Act->World->Prop:=λx a w=>∃E F,Ag P n a E/\Sat e w F/\Q x E F
def ai (P:Program) (f:FuncId) (args:Array Value) (F:PH) (R:Value->PH->Prop):Prop:=
 ∀e w,Sat e w F->Calls P f args w λen w'=>∃v F',en=.returned v/\Sat e w' F'/\R v F'
def PH.and (F H:PH):PH:=λb=>match F b with|some o=>some o|none=>H b
theorem PH.and_left {F H:PH} {b:Nat} {o:Obj} (h:F b=some o):(F.and H) b=some o:=by simp [PH.and,h]
theorem PH.and_right {F H:PH} {b:Nat} (h:F b=none):(F.and H) b=H b:=by simp [PH.and,h]
theorem ai.beside {P:Program} {f:FuncId} {args:Array Value} {F H:PH} {R:Value->PH->Prop} (h:ai P f args F R) (hd:∀b o,H b=some o->F b=none):
  ai P f args (F.and H) λv F'=>∃G,R v G/\F'=G.and H/\∀b o,H b=some o->G b=none:=by
 intro e w hs;have hand:∀{F:PH} {b:Nat},(F.and H) b=none->F b=none/\H b=none:=λ{F b} hb=>by
  unfold PH.and at hb;split at hb
  ·cases hb
  ·rename_i hf;exact ⟨hf,hb⟩
 refine (h ⟨e.os,e.tape,e.output,e.fr.and H⟩ w ⟨hs.os,hs.tape,hs.output,λb o hb=>hs.heap b o (PH.and_left hb),λb o hb=> ?_⟩).mono ?_
 ·simp only [PH.and] at hb;split at hb
  ·rename_i o' ho';cases hb;obtain ⟨h1,h2⟩:=hs.frame b _ ho';exact ⟨(hand h1).1,h2⟩
  ·have hn:=hd b o hb;exact ⟨hn,hs.heap b o ((PH.and_right hn).trans hb)⟩
 ·rintro en w' ⟨v,G,rfl,hg,hr⟩;have hdis:∀b o,H b=some o->G b=none:=λb o hb=>by
   have hx:∃o',(e.fr.and H) b=some o':=by
    cases hf:e.fr b with
    |none=>exact ⟨o,(PH.and_right hf).trans hb⟩
    |some o'=>exact ⟨o',PH.and_left hf⟩
   obtain ⟨o',ho'⟩:=hx;exact (hg.frame b o' ho').1
  refine ⟨v,_,rfl,⟨hg.os,hg.tape,hg.output,λb o hb=> ?_,λb o hb=> ?_⟩,G,hr,rfl,hdis⟩
  ·cases hG:G b with
   |some o'=>rw [PH.and_left hG] at hb;cases hb;exact hg.heap b _ hG
   |none=>
    rw [PH.and_right hG] at hb;have hfr:e.fr b=none:=by
     cases hf:e.fr b with
     |none=>rfl
     |some o'=>have:=(hand (hs.frame b o' hf).1).2;rw [hb] at this;cases this
    exact (hg.frame b o ((PH.and_right hfr).trans hb)).2
  ·obtain ⟨h1,_⟩:=hs.frame b o hb;have h3:=(hand h1).2;obtain ⟨h4,h5⟩:=hg.frame b o (PH.and_left hb);exact ⟨by rw [PH.and_right h4];exact h3,h5⟩
theorem ai.mono {P:Program} {f:FuncId} {args:Array Value} {F:PH} {R R':Value->PH->Prop} (h:ai P f args F R) (hr:∀v F',R v F'->R' v F'):
  ai P f args F R':=λe w hs=>(h e w hs).mono λ_ _ ⟨v,F',h1,h2,h3⟩=>⟨v,F',h1,h2,hr v F' h3⟩
def HC (P:Program) (n:Nat) (c:Code) (Q:Exit->En->PH->Prop) (E:En) (F:PH):Prop:=
 ∀e a w,Ag P n a E->Sat e w F->c.wp P (QL P e n Q) a w
def HL (P:Program) (n:Nat) (ops:Array Oper) (Q:Exit->En->PH->Prop) (l:List Oper) (E:En) (F:PH):Prop:=
 ∀e a w,Ag P n a E->Sat e w F->wpList P ops (QL P e n Q) l a w
abbrev JL (K:En->PH->Prop) (Q:Exit->En->PH->Prop):Exit->En->PH->Prop
 | .normal,E,F=>K E F
 |x,E,F=>Q x E F
abbrev Eu (id:Nat) (Q:Exit->En->PH->Prop):Exit->En->PH->Prop
 | .exit i,E,F=>bif Nat.beq i id then Q .normal E F else Q (.exit i) E F
 |x,E,F=>Q x E F
section
variable {P:Program} {n:Nat} {Q:Exit->En->PH->Prop} {E:En} {F:PH}
theorem HX (h:Q .normal E F):HC P n .skip Q E F:=λ_ _ _ ag st=>wp_skip ⟨E,F,ag,st,h⟩
theorem Mi (h:Q .ret E F):HC P n .ret Q E F:=λ_ _ _ ag st=>wp_ret ⟨E,F,ag,st,h⟩
theorem HY {id:Nat} (h:Q (.exit id) E F):HC P n (.exit id) Q E F:=λ_ _ _ ag st=>wp_exit ⟨E,F,ag,st,h⟩
theorem yU {x y:Code} (h:HC P n x (JL (HC P n y Q) Q) E F):HC P n (.seq x y) Q E F:=λe a w ag st=>
 wp_seq (wp_mono (h e a w ag st) λex a' w' ⟨E',F',ag',st',q⟩=>by
  cases ex with
  |normal=>exact q e a' w' ag' st'
  |_=>exact ⟨E',F',ag',st',q⟩)
theorem pf {c:Operand} {x y:Code} {t:Bool} (hc:ev E c=.bool t) (h1:t=true->HC P n x Q E F) (h2:t=false->HC P n y Q E F):
  HC P n (.cond c x y) Q E F:=λe a w ag st=>
 wp_cond_split (by rw [ag.eval];exact hc) (λht=>h1 ht e a w ag st) (λht=>h2 ht e a w ag st)
theorem Ew {l:Nat} (h:Q .normal E F):HC P n (.label l) Q E F:=λ_ _ _ ag st=>wp_label ⟨E,F,ag,st,h⟩
def S8 (Q:Exit->En->PH->Prop):Exit->En->PH->Prop
 | .goto _,_,_=>False
 |x,E,F=>Q x E F
theorem Ex {c:Code} (h:HC P n c (S8 Q) E F):HC P n (.scope c) Q E F:=λe a w ag st=>
 wp_scope_straight (wp_mono (h e a w ag st) λex a' w' ⟨E',F',ag',st',q⟩=>by
  cases ex with
  |goto l=>exact q.elim
  |_=>exact ⟨E',F',ag',st',q⟩)
theorem Ey {id:Nat} {c:Code} (h:HC P n c (Eu id Q) E F):HC P n (.block id c) Q E F:=λe a w ag st=>
 wp_block (wp_mono (h e a w ag st) λex a' w' ⟨E',F',ag',st',q⟩=>by
  cases ex with
  |exit i=>
   simp only [Exit.inBlock,Eu] at q ⊢;by_cases hi:i=id
   ·subst hi;have:Nat.beq i i=true:=by simp
    simp only [this,cond_true] at q;rw [if_pos rfl];exact ⟨E',F',ag',st',q⟩
   ·have:Nat.beq i id=false:=kH hi;simp only [this,cond_false] at q;rw [if_neg hi];exact ⟨E',F',ag',st',q⟩
  |_=>exact ⟨E',F',ag',st',q⟩)
theorem HZ {c:Code} (I:Nat->En->PH->Prop) (m0:Nat) (h0:I m0 E F)
  (round:∀m E F,I m E F->HC P n c (JL (λE' F'=>∃m',m'<m/\I m' E' F') Q) E F):HC P n (.loop c) Q E F:=by
 intro e a w ag st b k cs;have key:∀m a w E F,Ag P n a E->Sat e w F->I m E F->
   ∃ex a' w',QL P e n Q ex a' w'/\Arrives P (lone (b.at a (.code c::.inLoop c::k)) cs w) b k cs ex a' w':=by
  intro m;induction m using Nat.strongRecOn with
  |_ m ih=>
   intro a w E F ag st hI;obtain ⟨ex,a₁,w₁,hq,harr⟩:=round m E F hI e a w ag st b (.inLoop c::k) cs;cases ex with
   |normal=>obtain ⟨E',F',ag',st',m',hlt,hI'⟩:=hq;obtain ⟨e₂,a₂,w₂,hq₂,harr₂⟩:=ih m' hlt a₁ w₁ E' F' ag' st' hI';exact ⟨e₂,a₂,w₂,hq₂,.of_steps (Steps.trans harr (.one step_inLoop)) harr₂⟩
   |exit id=>exact ⟨_,a₁,w₁,hq,.pass (x:=.inLoop c) rfl (λ_ _=> .inl (by simp)) harr⟩
   |goto l=>exact ⟨_,a₁,w₁,hq,.pass (x:=.inLoop c) rfl (λ_ _=> .inl (by simp)) harr⟩
   |ret=>exact ⟨_,a₁,w₁,hq,.pass (x:=.inLoop c) rfl (λ_ _=> .inl (by simp)) harr⟩
   |panic ch=>exact ⟨_,a₁,w₁,hq,.pass (x:=.inLoop c) rfl (λ_ _=> .inl (by simp)) harr⟩
   |outgrown=>exact ⟨_,a₁,w₁,hq,.pass (x:=.inLoop c) rfl (λ_ _=> .inl (by simp)) harr⟩
 obtain ⟨ex,a',w',hq,harr⟩:=key m0 a w E F ag st h0;exact ⟨ex,a',w',hq,.of_steps (.one step_loop) harr⟩
theorem CW {id:Nat} {l:List Oper} (h:HL P n l.toArray Q l E F):HC P n (.region id l.toArray false) Q E F:=λe a w ag st=>
 wp_region_lit (h e a w ag st)
def bO (P:Program) (K:En->PH->Prop) (o:Oper) (E:En):Next->PH->Prop
 | .value v,F=>K (cQ E o.dst v) F
 | .skip,F=>K (cQ E o.dst undef) F
 | .enter f args,F=>ai P f args F λv F'=>K (cQ E o.dst v) F'
 | .defer d,F=>yT P d/\K (cQ E o.dst undef) F
 |_,_=>False
theorem JM {o:Oper} {e:Ev} {a:Act} {w:World} {K:En->PH->Prop} {K':Act->World->Prop} {Q':Exit->Act->World->Prop} (ag:Ag P n a E) (st:Sat e w F) (hd:fI n o.dst=true)
  (hk:∀a w E F,Ag P n a E->Sat e w F->K E F->K' a w)
  (h:aG P (execOp (ev E) o) F (bO P K o E)):o.wp P a w K' Q':=by
 obtain ⟨nx,w',F',hr,st',hq⟩:=yS _ F w _ h st;unfold Oper.wp;rw [ag.eval,hr];cases nx with
 |value v=>exact hk _ _ _ _ (ag.put v hd) st' hq
 |skip=>exact hk _ _ _ _ (ag.put undef hd) st' hq
 |enter f args=>refine (hq e w' st').mono ?_;rintro _ w'' ⟨v,F'',rfl,st'',hK⟩;exact hk _ _ _ _ (ag.put v hd) st'' hK
 |defer d=>have ag2:Ag P n {a with defers:=d::a.defers} E:=⟨ag.size,λd' h=>(UT.1 h).elim (λe=>e▸hq.1) (ag.defers d'),ag.val⟩;exact hk _ _ _ _ (ag2.put undef hd) st' hq.2
 |_=>exact hq.elim
def yE (ops:Array Oper) (E:En) (j:Nat):Option Bool:=
 match (ops[j]?).bind (·.dst) with
 |some t=>(match E t with| .bool b=>some b|_=>none)
 |none=>none
theorem Ag.yE_eq {a:Act} (h:Ag P n a E) (ops:Array Oper) (j:Nat):yielded ops a.tmps j=yE ops E j:=by
 unfold yielded yE;cases (ops[j]?).bind (·.dst) with
 |none=>rfl
 |some t=>
  have hv:=h.val t;simp only [Option.bind_some];rw [<- hv,V3];cases a.tmps[t]? with
  |none=>rfl
  |some v=>cases v<;>rfl
theorem Ag.wanted_eq {a:Act} (h:Ag P n a E) (ops:Array Oper) (o:Oper):Region.wanted o (yielded ops a.tmps)=Region.wanted o (yE ops E):=by
 unfold Region.wanted;cases o.guard with
 |none=>rfl
 |some g=>simp only [h.yE_eq]
theorem Mj {ops:Array Oper} (h:Q .normal E F):HL P n ops Q [] E F:=λ_ _ _ ag st=>wpList_nil ⟨E,F,ag,st,h⟩
theorem JN {ops:Array Oper} {o:Oper} {l:List Oper} (hw:Region.wanted o (yE ops E)=true) (hd:fI n o.dst=true)
  (h:aG P (execOp (ev E) o) F (bO P (HL P n ops Q l) o E)):HL P n ops Q (o::l) E F:=λe a w ag st=>by
 unfold wpList;rw [ag.wanted_eq,if_pos hw];exact .inl (JM ag st hd (λa w E F ag st hk=>hk e a w ag st) h)
theorem H0 {ops:Array Oper} {o:Oper} {l:List Oper} (hw:Region.wanted o (yE ops E)=false) (hd:fI n o.dst=true)
  (h:HL P n ops Q l (cQ E o.dst undef) F):HL P n ops Q (o::l) E F:=λe a w ag st=>by
 unfold wpList;rw [ag.wanted_eq,if_neg (by simp [hw])];exact h e _ _ (ag.put undef hd) st
def qM (P:Program) (fn:Func) (E:En) (F:PH) (v:Value):Prop:=
 ∀e w tmps,Sat e w F->(∀t:Nat,Array.getD tmps t undef=E t)->(results fn tmps).run P w=.ok v w
abbrev Ia (P:Program) (fn:Func) (R:Value->PH->Prop):Exit->En->PH->Prop
 | .normal,E,F| .ret,E,F=>∃v,qM P fn E F v/\R v F
 |_,_,_=>False
theorem Ib {f:FuncId} {fn:Func} {c:Code} {args:List Value} {R:Value->PH->Prop} (hf:P.funcs[f]? =some fn) (hb:fn.body=some c)
  (hn:fn.ntmps=n) (hs:Nat.ble args.length n=true) (h:HC P n c (Ia P fn R) (Mh args) F):ai P f args.toArray F R:=λe w st=>by
 have hs':args.length<=n:=by simpa [Nat.ble_eq] using hs
 refine calls_of_wp_defers hf hb ?_;refine wp_mono (h e _ w ⟨?_,λ_ h=>(by cases h),λt=> ?_⟩ st) ?_
 ·simp [hn];omega
 ·simp only [Mh,V3,Vr,Array.getElem?_append,Wx,Array.getElem?_replicate];by_cases ht:t<args.length
  ·simp [ht]
  ·simp only [ht,if_false];rw [VX (by omega)];split<;>rfl
 ·rintro ex a' w' ⟨E',F',ag',st',q⟩;cases ex with
  |normal=>obtain ⟨v,hr,hR⟩:=q;exact jp (hr e w' _ st' ag'.val) ⟨v,F',rfl,st',hR⟩ _ ag'.defers
  |ret=>obtain ⟨v,hr,hR⟩:=q;exact jp (hr e w' _ st' ag'.val) ⟨v,F',rfl,st',hR⟩ _ ag'.defers
  |_=>exact q.elim
end
section
variable {P:Program} {ops:Array Oper} {md:Region.Mode}
def Oper.waits (md:Region.Mode) (o:Oper) (r:Nat):Bool:=o.after.toList.any λe=>Region.binds md e && e.on==r
theorem yV {o:Oper} {r:Nat}:Oper.waits md o r=false↔∀e∈o.after,Region.binds md e=true->e.on≠r:=by
 unfold Oper.waits;rw [<- Wq,VZ];constructor
 ·intro h x hx hb heq;exact h ⟨x,by simpa using hx,by simp [hb,heq]⟩
 ·rintro h ⟨x,hx,hp⟩;simp only [VB,beq_iff_eq] at hp;exact h x (by simpa using hx) hp.1 hp.2
abbrev co:=List (Nat×(World->Prop))
def co.hold (Sp:co) (w:World):Prop:=∀r∈Sp,r.2 w
def co.rest (md:Region.Mode) (o:Oper) (Sp:co):co:=Sp.filter λr=> !Oper.waits md o r.1
def iq (P:Program) (md:Region.Mode) (ops:Array Oper) (Q:Exit->Act->World->Prop):Nat->Array Bool->co->Act->World->Prop
 |0,listed,_,a,w=>Region.ready md ops listed=[]/\Q .normal a w
 |fuel+1,listed,Sp,a,w=>
  (Region.ready md ops listed=[]->Q .normal a w)/\
  ∀i∈Region.ready md ops listed,∀o,ops[i]? =some o->
   wpOp P ops Q i (λa' w'=>(Sp.rest md o).hold w'/\iq P md ops Q fuel (listed.setIfInBounds i true) (Sp.rest md o) a' w') a w
variable {Q:Exit->Act->World->Prop}
theorem qN:∀(fuel:Nat) (listed:Array Bool) (Sp:co) (a:Act) (w:World),iq P md ops Q fuel listed Sp a w->wpAny P md ops Q fuel listed a w
 |0,_,_,_,_,h=>h
 |fuel+1,_,_,_,_,h=>⟨h.1,λi hi=>by
   obtain ⟨_,o,ho,_⟩:=mem_ready.1 hi
   exact wpOp_mono (λa' w' h'=>qN fuel _ _ a' w' h'.2) (h.2 i hi o ho)⟩
theorem co.rest_sub {o:Oper} {Sp Sp':co} (h:∀r∈Sp',r∈Sp):∀r∈co.rest md o Sp',r∈co.rest md o Sp:=by intro r hr;unfold co.rest at*;rw [Wj] at*;exact ⟨h r hr.1,hr.2⟩
theorem qO:∀(fuel:Nat) (listed:Array Bool) (Sp Sp':co) (a:Act) (w:World),(∀r∈Sp',r∈Sp)->iq P md ops Q fuel listed Sp a w->
  iq P md ops Q fuel listed Sp' a w
 |0,_,_,_,_,_,_,h=>h
 |fuel+1,_,_,_,_,_,hs,h=>⟨h.1,λi hi o ho=>wpOp_mono (λa' w' h'=>⟨λr hr=>h'.1 r (co.rest_sub hs r hr),qO fuel _ _ _ a' w' (co.rest_sub hs) h'.2⟩) (h.2 i hi o ho)⟩
theorem lO {S:World->Prop} {i:Nat} {oi:Oper} {v:Value} (hi:ops[i]? =some oi) (hsel:∀(j:Nat) (o:Oper) cs b,ops[j]? =some o->o.op≠.select cs b)
  (hQ:∀c a w,Q (.panic c) (a.put oi.dst v) w->Q (.panic c) a w):
  ∀(fuel:Nat) (listed:Array Bool) (Sp:co) (a:Act) (w:World),
   (∀j oj,ops[j]? =some oj->j≠i->listed.getD j true=false->(∀e∈oj.after,Region.binds md e=true->e.on≠i)->oi.apart ops oj=true)->
   i∈Region.ready md ops listed->YieldsIf P ops S oi v a->S w->Sp.hold w->
   iq P md ops Q fuel (listed.setIfInBounds i true) ((i,S)::Sp) (a.put oi.dst v) w->iq P md ops Q (fuel+1) listed Sp a w:=by
 intro fuel;induction fuel with
 |zero=>
  intro listed Sp a w _ hr hy hS hh H;refine ⟨λh=>(by rw [h] at hr;cases hr),λj hj oj hoj=> ?_⟩;by_cases hji:j=i
  ·subst hji;exact hy.wpOp hi hS ⟨λr hr'=>hh r (Wj.1 hr').1,H⟩
  ·have:=ready_mono hj hji;rw [H.1] at this;cases this
 |succ fuel ih=>
  intro listed Sp a w hfree hr hy hS hh H;refine ⟨λh=>(by rw [h] at hr;cases hr),λj hj oj hoj=> ?_⟩;by_cases hji:j=i
  ·subst hji;refine hy.wpOp hi hS ⟨λr hr'=>hh r (Wj.1 hr').1,?_⟩;exact qO (fuel+1) _ _ _ _ _ (λr hr'=>Ve _ (Wj.1 hr').1) H
  ·have h1:=H.2 j (ready_mono hj hji) oj hoj;obtain ⟨hjun,oj',hoj',hall⟩:=mem_ready.1 hj;obtain rfl:oj'=oj:=by rw [hoj] at hoj';exact (Vl hoj').symm
   have hnot:∀e∈oj'.after,Region.binds md e=true->e.on≠i:=λe he hb heq=>by
    have h1:=hall e he hb;have h0:=(mem_ready.1 hr).1;rw [heq] at h1;rcases Nat.lt_or_ge i listed.size with h'|h'
    ·simp [h'] at h0 h1;rw [h0] at h1;cases h1
    ·simp [Array.getElem?_eq_none h'] at h1
   have hw:Oper.waits md oj' i=false:=yV.2 hnot;have hrest:co.rest md oj' ((i,S)::Sp)=(i,S)::co.rest md oj' Sp:=by unfold co.rest;rw [List.filter_cons_of_pos (by simp [hw])]
   rw [hrest] at h1;have h2:=wpOp_putIf hoj (hfree j oj' hoj hji hjun hnot) (λcs b=>hsel i oi cs b hi) (λcs b=>hsel j oj' cs b hoj) hQ hy h1;have hfree':∀k ok,ops[k]? =some ok->k≠i->(listed.setIfInBounds j true).getD k true=false->
     (∀e∈ok.after,Region.binds md e=true->e.on≠i)->oi.apart ops ok=true:=λk ok hk hki hun hno=>by
    refine hfree k ok hk hki ?_ hno;by_cases hjk:j=k
    ·subst hjk;exact hjun
    ·rw [getD_set_ne true hjk] at hun;exact hun
   refine wpOp_mono (λa' w' h3=> ?_) h2;obtain ⟨hy',hhold,h3⟩:=h3;refine ⟨λr hr'=>hhold r (Ve _ hr'),?_⟩;refine ih (listed.setIfInBounds j true) _ a' w' hfree' (ready_mono hr (Ne.symm hji)) hy' (hhold _ (VY ..)) (λr hr'=>hhold r (Ve _ hr')) ?_;rw [Array.setIfInBounds_comm _ _ hji];exact h3
end
section
variable {P:Program} {n:Nat} {Q:Exit->En->PH->Prop} {E:En} {F:PH} {ops:Array Oper}
def yW (F:PH) (S:World->Prop):Prop:=∀e w,Sat e w F->S w
def fZ (Sp:co) (F:PH):Prop:=∀r∈Sp,yW F r.2
def RG (P:Program) (n:Nat) (ops:Array Oper) (Q:Exit->En->PH->Prop) (fuel:Nat) (listed:Array Bool) (Sp:co) (E:En) (F:PH):Prop:=
 ∀e a w,Ag P n a E->Sat e w F->iq P .any ops (QL P e n Q) fuel listed Sp a w
theorem Ic {id:Nat} (hm:P.follows .mixedOrders=true) (h:RG P n ops Q ops.size (Array.replicate ops.size false) [] E F):
  HC P n (.region id ops true) Q E F:=λe a w ag st=>
 wp_region_any hm (qN _ _ _ _ _ (h e a _ ag (st.drawn _)))
theorem Id {fuel:Nat} {listed:Array Bool} {Sp:co} (hr:Region.ready .any ops listed=[]) (h:Q .normal E F):RG P n ops Q fuel listed Sp E F:=
 λe a w ag st=>by
  cases fuel with
  |zero=>exact ⟨hr,E,F,ag,st,h⟩
  |succ fuel=>exact ⟨λ_=>⟨E,F,ag,st,h⟩,by rw [hr];simp⟩
def JO (P:Program) (S:World->Prop) (E:En) (o:Oper) (v:Value):Prop:=∀w,S w->(execOp (ev E) o).run P w=.ok (.value v) w
theorem A1 {S:World->Prop} {i:Nat} {oi:Oper} {v:Value} {fuel:Nat} {listed:Array Bool} {Sp:co} (hi:ops[i]? =some oi)
  (hs:Region.noSelect ops=true) (hf:Region.free .any ops listed i=true) (hr:(Region.ready .any ops listed).contains i=true) (hd:fI n oi.dst=true)
  (hp:∀c E F,¬Q (.panic c) E F) (hw:Region.wanted oi (yE ops E)=true) (hy:JO P S E oi v) (hS:yW F S) (hh:fZ Sp F)
  (h:RG P n ops Q fuel (listed.setIfInBounds i true) ((i,S)::Sp) (cQ E oi.dst v) F):RG P n ops Q (fuel+1) listed Sp E F:=λe a w ag st=>
 lO hi (Region.noSelect_spec hs) (λc a w ⟨E,F,_,_,q⟩=>(hp c E F q).elim) fuel listed Sp a w (Region.free_spec hi hf) (by simpa using hr)
  (.inl ⟨by rw [ag.wanted_eq];exact hw,λw hw'=>by rw [ag.eval];exact hy w hw'⟩) (hS e w st) (λr hr=>hh r hr e w st) (h e _ w (ag.put v hd) st)
theorem jq {Q:Exit->Act->World->Prop} {md:Region.Mode} (i:Nat):∀(fuel:Nat) (listed:Array Bool) (Sp:co) (a:Act) (w:World),iq P md ops Q fuel listed Sp a w->
  iq P md ops Q fuel listed ((i,λ_=>True)::Sp) a w
 |0,_,_,_,_,h=>h
 |fuel+1,_,Sp,_,_,h=>⟨h.1,λj hj o ho=>wpOp_mono (λa' w' h'=>by
   by_cases hw:Oper.waits md o i=true
   ·have:co.rest md o ((i,λ_=>True)::Sp)=co.rest md o Sp:=by unfold co.rest;rw [List.filter_cons_of_neg (by simp [hw])]
    rw [this];exact h'
   ·have:co.rest md o ((i,λ_=>True)::Sp)=(i,λ_=>True)::co.rest md o Sp:=by unfold co.rest;rw [List.filter_cons_of_pos (by simpa using hw)]
    rw [this];refine ⟨λr hr=> ?_,jq i fuel _ _ a' w' h'.2⟩;rcases UT.1 hr with rfl|hr
    ·trivial
    ·exact h'.1 r hr) (h.2 j hj o ho)⟩
theorem Ie {i:Nat} {oi:Oper} {v:Value} {fuel:Nat} {listed:Array Bool} {Sp:co} (hi:ops[i]? =some oi)
  (hs:Region.noSelect ops=true) (hf:Region.free .any ops listed i=true) (hr:(Region.ready .any ops listed).contains i=true) (hd:fI n oi.dst=true)
  (hp:∀c E F,¬Q (.panic c) E F) (hw:Region.wanted oi (yE ops E)=true) (hy:JO P (λ_=>True) E oi v) (hh:fZ Sp F)
  (h:RG P n ops Q fuel (listed.setIfInBounds i true) Sp (cQ E oi.dst v) F):RG P n ops Q (fuel+1) listed Sp E F:=
 A1 (S:=λ_=>True) hi hs hf hr hd hp hw hy (λ_ _ _=>trivial) hh λe a w ag st=>jq i _ _ _ _ _ (h e a w ag st)
theorem If {i:Nat} {oi:Oper} {fuel:Nat} {listed:Array Bool} {Sp:co} (hi:ops[i]? =some oi)
  (hs:Region.noSelect ops=true) (hf:Region.free .any ops listed i=true) (hr:(Region.ready .any ops listed).contains i=true) (hd:fI n oi.dst=true)
  (hp:∀c E F,¬Q (.panic c) E F) (hw:Region.wanted oi (yE ops E)=false) (hh:fZ Sp F)
  (h:RG P n ops Q fuel (listed.setIfInBounds i true) Sp (cQ E oi.dst undef) F):RG P n ops Q (fuel+1) listed Sp E F:=λe a w ag st=>
 lO (S:=λ_=>True) hi (Region.noSelect_spec hs) (λc a w ⟨E,F,_,_,q⟩=>(hp c E F q).elim) fuel listed Sp a w (Region.free_spec hi hf) (by simpa using hr)
  (.inr ⟨by rw [ag.wanted_eq];exact hw,rfl⟩) trivial (λr hr=>hh r hr e w st) (jq i _ _ _ _ _ (h e _ w (ag.put undef hd) st))
def S9 (P:Program) (n:Nat) (ops:Array Oper) (Q:Exit->En->PH->Prop) (fuel:Nat) (listed:Array Bool) (Sp:co) (E:En) (F:PH) (i:Nat):Prop:=
 ∃o,ops[i]? =some o/\fI n o.dst=true/\Region.wanted o (yE ops E)=true/\
  aG P (execOp (ev E) o) F (bO P (λE' F'=>fZ (Sp.rest .any o) F'/\RG P n ops Q fuel (listed.setIfInBounds i true) (Sp.rest .any o) E' F') o E)
theorem Mk {fuel:Nat} {listed:Array Bool} {Sp:co} {rs:List Nat} (hr:Region.ready .any ops listed=rs) (hne:rs.isEmpty=false)
  (h:∀i∈rs,S9 P n ops Q fuel listed Sp E F i):RG P n ops Q (fuel+1) listed Sp E F:=λe a w ag st=>by
 subst hr;refine ⟨λh0=>(by rw [h0] at hne;cases hne),λi hi o ho=> ?_⟩;obtain ⟨o',ho',hd,hw,hrun⟩:=h i hi;obtain rfl:o'=o:=by rw [ho] at ho';exact (Vl ho').symm
 unfold wpOp;simp only [ho];rw [ag.wanted_eq,if_pos hw];exact .inl (JM ag st hd (λa w E F ag st hk=>⟨λr hr=>hk.1 r hr e w st,hk.2 e a w ag st⟩) hrun)
end
def rdo {α:Type} (P:Program):Sem α->PH->α->Prop
 | .pure a,_,v=>a=v
 | .load _ a k,F,v=>∃x,F.cell a=some x/\rdo P (k x) F v
 | .shape r k,F,v=>∃o,F r=some o/\rdo P (k (jJ o)) F v
 | .frozen a k,F,v=>∃o,F a.block=some o/\rdo P (k (tT o a.off)) F v
 | .getObj r k,F,v=>∃o,F r=some o/\(∀c e fr,o≠.cells c e fr)/\rdo P (k o) F v
 | .program k,F,v=>rdo P (k P) F v
 | .mark _ k,F,v=>rdo P k F v
 |_,_,_=>False
theorem pg {α:Type} {P:Program} {e:Ev} (s:Sem α):∀(F:PH) (w:World) (v:α),rdo P s F v->Sat e w F->s.run P w=.ok v w:=by
 induction s with
 |pure a=>intro F w v h _;exact congrArg (λx=>Result.ok x w) h
 |load m a k ih=>rintro F w v ⟨x,hc,h⟩ hs;simp only [Sem.run,hs.cell hc];exact ih x F w v h hs
 |shape r k ih=>
  rintro F w v ⟨o,hb,h⟩ hs;have hheap:=hs.heap _ _ hb;have:w.shape? r=jJ o:=by unfold World.shape?;rw [hheap];cases o<;>simp [jJ]
  simp only [Sem.run,this];exact ih _ F w v h hs
 |frozen a k ih=>
  rintro F w v ⟨o,hb,h⟩ hs;have hheap:=hs.heap _ _ hb;have:w.frozen? a=tT o a.off:=by unfold World.frozen?;rw [hheap];cases o<;>simp [tT,frz]
  simp only [Sem.run,this];exact ih _ F w v h hs
 |getObj r k ih=>
  rintro F w v ⟨o,hb,hn,h⟩ hs;have hheap:=hs.heap _ _ hb;have:(Sem.getObj r k).run P w=(k o).run P w:=by cases o<;>first|exact absurd rfl (hn _ _ _)|simp only [Sem.run,hheap]
  rw [this];exact ih _ F w v h hs
 |program k ih=>intro F w v h hs;exact ih _ F w v h hs
 |mark m k ih=>intro F w v h hs;exact ih F w v h hs
 |_=>intro F w v h;exact h.elim
theorem gU {α:Type} {P:Program} (s:Sem α):∀(F:PH) (v:α) (Q:α->PH->Prop),rdo P s F v->Q v F->aG P s F Q:=by
 induction s with
 |pure a=>intro F v Q h hq;cases h;exact hq
 |load m a k ih=>rintro F v Q ⟨x,hc,h⟩ hq;exact ⟨x,hc,ih x F v Q h hq⟩
 |shape r k ih=>rintro F v Q ⟨o,hb,h⟩ hq;exact ⟨o,hb,ih _ F v Q h hq⟩
 |frozen a k ih=>rintro F v Q ⟨o,hb,h⟩ hq;exact ⟨o,hb,ih _ F v Q h hq⟩
 |getObj r k ih=>rintro F v Q ⟨o,hb,hn,h⟩ hq;exact ⟨o,hb,hn,ih _ F v Q h hq⟩
 |program k ih=>intro F v Q h hq;exact ih _ F v Q h hq
 |mark m k ih=>intro F v Q h hq;exact ih F v Q h hq
 |_=>intro F v Q h;exact h.elim
theorem aj {α β:Type} {P:Program} (s:Sem α) (f:α->Sem β):∀(F:PH) (v:β),rdo P (s>>=f) F v↔∃a,rdo P s F a/\rdo P (f a) F v:=by
 show ∀(F:PH) (v:β),rdo P (s.bind f) F v↔_;induction s with
 |pure a=>intro F v;simp only [Sem.bind,rdo];exact ⟨λh=>⟨a,rfl,h⟩,by rintro ⟨_,rfl,h⟩;exact h⟩
 |load m a k ih=>intro F v;simp only [Sem.bind,rdo,ih];exact ⟨λ⟨x,hc,a,h1,h2⟩=>⟨a,⟨x,hc,h1⟩,h2⟩,λ⟨a,⟨x,hc,h1⟩,h2⟩=>⟨x,hc,a,h1,h2⟩⟩
 |shape r k ih=>intro F v;simp only [Sem.bind,rdo,ih];exact ⟨λ⟨x,hc,a,h1,h2⟩=>⟨a,⟨x,hc,h1⟩,h2⟩,λ⟨a,⟨x,hc,h1⟩,h2⟩=>⟨x,hc,a,h1,h2⟩⟩
 |frozen a k ih=>intro F v;simp only [Sem.bind,rdo,ih];exact ⟨λ⟨x,hc,a,h1,h2⟩=>⟨a,⟨x,hc,h1⟩,h2⟩,λ⟨a,⟨x,hc,h1⟩,h2⟩=>⟨x,hc,a,h1,h2⟩⟩
 |getObj r k ih=>intro F v;simp only [Sem.bind,rdo,ih];exact ⟨λ⟨x,hc,hn,a,h1,h2⟩=>⟨a,⟨x,hc,hn,h1⟩,h2⟩,λ⟨a,⟨x,hc,hn,h1⟩,h2⟩=>⟨x,hc,hn,a,h1,h2⟩⟩
 |program k ih=>intro F v;simp only [Sem.bind,rdo,ih]
 |mark m k ih=>intro F v;simp only [Sem.bind,rdo,ih]
 |_=>intro F v;simp [Sem.bind,rdo]
@[simp] theorem cG {α:Type} {P:Program} (a v:α) (F:PH):rdo P (pure a:Sem α) F v↔a=v:=Iff.rfl
@[simp] theorem aN {α:Type} {P:Program} (a:α) (F:PH) (Q:α->PH->Prop):aG P (pure a:Sem α) F Q↔Q a F:=Iff.rfl
@[simp] theorem Ig {α β:Type} {P:Program} (f:α->β) (s:Sem α) (F:PH) (v:β):rdo P (Functor.map f s) F v↔∃a,rdo P s F a/\f a=v:=aj s (λa=>pure (f a)) F v
@[simp] theorem Oj {α β:Type} {P:Program} (f:α->β) (s:Sem α) (F:PH) (Q:β->PH->Prop):aG P (Functor.map f s) F Q↔aG P s F (λa F'=>Q (f a) F'):=tU s (λa=>pure (f a)) F Q
def tsz (P:Program) (t:TypeId):Option (Nat×Nat):=(P.info? t).map λi=>(i.size,i.bytes)
def bP (P:Program) (t:TypeId):Option Value:=(P.info? t).bind (·.zero)
theorem qP {P:Program} {t s b:Nat} (h:tsz P t=some (s,b)):∃i,P.info? t=some i/\i.size=s/\i.bytes=b:=by
 unfold tsz at h;cases hi:P.info? t with
 |none=>simp [hi] at h
 |some i=>simp [hi] at h;exact ⟨i,rfl,h.1,h.2⟩
theorem qQ {P:Program} {t:Nat} {z:Value} (h:bP P t=some z):∃i,P.info? t=some i/\i.zero=some z:=by
 unfold bP at h;cases hi:P.info? t with
 |none=>simp [hi] at h
 |some i=>simp [hi] at h;exact ⟨i,rfl,h⟩
section
variable {P:Program} {F:PH}
theorem bB {t s b:Nat} (h:tsz P t=some (s,b)) (v:Nat):rdo P (sizeOf t) F v↔s=v:=by
 obtain ⟨i,h1,h2,h3⟩:=qP h;unfold sizeOf typeInfo program;simp only [aj];constructor
 ·rintro ⟨i',⟨p,hp,h⟩,h'⟩;simp only [rdo] at hp;subst hp;rw [h1] at h;simp only [cG] at h h';subst h;rw [<- h2];exact h'
 ·rintro rfl;refine ⟨i,⟨P,rfl,?_⟩,?_⟩
  ·rw [h1];rfl
  ·rw [<- h2];rfl
theorem fo {t s b:Nat} (h:tsz P t=some (s,b)) (Q:Nat->PH->Prop):aG P (sizeOf t) F Q↔Q s F:=by obtain ⟨i,h1,h2,h3⟩:=qP h;unfold sizeOf typeInfo program;simp only [aA,aG,h1,aN,h2]
theorem fJ {t s b:Nat} (h:tsz P t=some (s,b)):∃i:TypeInfo,i.bytes=b/\∀(F:PH) (Q:TypeInfo->PH->Prop),aG P (typeInfo t) F Q↔Q i F:=by obtain ⟨i,h1,h2,h3⟩:=qP h;refine ⟨i,h3,λF Q=> ?_⟩;unfold typeInfo program;simp only [aA,aG,h1,aN]
theorem az {t:Nat} {d:TypeDesc} (h:P.underlying t=some d) (v:TypeDesc):rdo P (underlying t) F v↔d=v:=by
 unfold underlying program;simp only [aj];constructor
 ·rintro ⟨p,hp,h'⟩;simp only [rdo] at hp;subst hp;rw [h] at h';exact h'
 ·rintro rfl;exact ⟨P,rfl,by rw [h];rfl⟩
theorem bW {t:Nat} {d:TypeDesc} (h:P.underlying t=some d) (Q:TypeDesc->PH->Prop):aG P (underlying t) F Q↔Q d F:=by unfold underlying program;simp only [aA,aG,h,aN]
theorem eK {t:Nat} {z:Value} (h:bP P t=some z) (Q:Value->PH->Prop):aG P (zeroValue t) F Q↔Q z F:=by obtain ⟨i,h1,h2⟩:=qQ h;unfold zeroValue typeInfo program;simp only [aA,aG,h1,aN,h2]
theorem gC {t:Nat} {z:Value} (h:bP P t=some z) (v:Value):rdo P (zeroValue t) F v↔z=v:=by
 obtain ⟨i,h1,h2⟩:=qQ h;unfold zeroValue typeInfo program;simp only [aj];constructor
 ·rintro ⟨i',⟨p,hp,h⟩,h'⟩;simp only [rdo] at hp;subst hp;rw [h1] at h;simp only [cG] at h;subst h;rw [h2] at h';exact h'
 ·rintro rfl;exact ⟨i,⟨P,rfl,by rw [h1];rfl⟩,by rw [h2];rfl⟩
def RD (P:Program) (E:En) (F:PH) (o:Oper) (v:Value):Prop:=rdo P (execOp (ev E) o) F (.value v)
variable {n:Nat} {Q:Exit->En->PH->Prop} {E:En} {ops:Array Oper} {o:Oper} {l:List Oper}
theorem Ok {v:Value} (h:RD P E F o v) (K:HL P n ops Q l (cQ E o.dst v) F) (hw:Region.wanted o (yE ops E)=true:=by rfl) (hd:fI n o.dst=true:=by rfl):
  HL P n ops Q (o::l) E F:=JN hw hd (gU _ _ _ _ h K)
theorem Ol {i:Nat} {oi:Oper} {v:Value} {fuel:Nat} {listed:Array Bool} {Sp:co} (hi:ops[i]? =some oi)
  (hs:Region.noSelect ops=true) (hf:Region.free .any ops listed i=true) (hr:(Region.ready .any ops listed).contains i=true) (hd:fI n oi.dst=true)
  (hp:∀c E F,¬Q (.panic c) E F) (hw:Region.wanted oi (yE ops E)=true) (hy:RD P E F oi v) (hh:fZ Sp F)
  (h:RG P n ops Q fuel (listed.setIfInBounds i true) ((i,λw=>∃e F,Sat e w F/\RD P E F oi v)::Sp) (cQ E oi.dst v) F):RG P n ops Q (fuel+1) listed Sp E F:=
 A1 hi hs hf hr hd hp hw (λw ⟨e,_,st,h⟩=>pg _ _ _ _ h st) (λe w st=>⟨e,F,st,hy⟩) hh h
theorem Om {i:Nat} {oi:Oper} {v:Value} {fuel:Nat} {listed:Array Bool} {Sp:co} (hi:ops[i]? =some oi)
  (hs:Region.noSelect ops=true) (hf:Region.free .any ops listed i=true) (hr:(Region.ready .any ops listed).contains i=true) (hd:fI n oi.dst=true)
  (hp:∀c E F,¬Q (.panic c) E F) (hw:Region.wanted oi (yE ops E)=true) (hy:∀F,RD P E F oi v) (hh:fZ Sp F)
  (h:RG P n ops Q fuel (listed.setIfInBounds i true) Sp (cQ E oi.dst v) F):RG P n ops Q (fuel+1) listed Sp E F:=
 Ie hi hs hf hr hd hp hw (λw _=>by
  have st:Sat ⟨w.os,w.tape,w.output,λ_=>none⟩ w (λ_=>none):=⟨rfl,rfl,rfl,λb o h=>(by cases h),λb o h=>(by cases h)⟩
  exact pg _ _ _ _ (hy _) st) hh h
theorem A2 {v:Value} (h:RD P E F o v):yW F (λw=>∃e F,Sat e w F/\RD P E F o v):=λe _ st=>⟨e,F,st,h⟩
end
abbrev Γ:=Array Value
abbrev Δ:=List Nat
abbrev Θ:=Option Addr
abbrev Ξ:=List Value
abbrev Φ:=List Int
abbrev Ψ:=PH->Prop
abbrev Ω:=Int->PH->Prop
end Go.Proofs.YtcemhghkipgdiaaGreatDoor
