/-
  A program logic over partial heaps. Part 3: what the single operations do. Operations that read at most (RD), operations that write or make memory.
-/
import Derived.Orders
import Derived.Tactics
import Derived.RowKit3
import Derived.OrdersHeld
namespace Go.Proofs.YtenpmjhnhepfdaaGreatDoor
open Go
abbrev PH:=Nat->Option Obj
namespace PH
def set (F:PH) (b:Nat) (o:Obj):PH:=fun x=>if x=b then some o else F x
def cell (F:PH) (a:Addr):Option Value:=
 match F a.block with
 |some (.cells c _ _)=>if a.spot.isSome then none else c[a.off]?
 |_=>none
def le (F G:PH):Prop:=∀b o,F b=some o->G b=some o
end PH
structure Ev where
 os:Os
 tape:Nat->Question->Nat
 output:Array (Nat×ByteArray)
 fr:PH
structure Sat (e:Ev) (w:World) (F:PH):Prop where
 os:w.os=e.os
 tape:w.tape=e.tape
 output:w.output=e.output
 heap:∀b o,F b=some o->w.heap[b]? =some o
 frame:∀b o,e.fr b=some o->F b=none/\w.heap[b]? =some o
def ai (v:Value):Prop:=(∀xs,v≠.agg xs)/\(∀xs,v≠.tuple xs)
def frz (fr:Nat×Nat) (i:Nat):Bool:=fr.1<=i && i<fr.2
def ji:Obj->Option (TypeId×Nat)
 | .cells c e _=>some (e,c.size)
 |_=>none
def sj (o:Obj) (i:Nat):Bool:=
 match o with
 | .cells _ _ fr=>frz fr i
 |_=>false
def aE {α:Type} (P:Program):Sem α->PH->(α->PH->Prop)->Prop
 | .pure a,F,Q=>Q a F
 | .load _ a k,F,Q=>∃v,F.cell a=some v/\aE P (k v) F Q
 | .store _ a v k,F,Q=>ai v/\∃c e fr,F a.block=some (.cells c e fr)/\a.spot=none/\a.off<c.size/\frz fr a.off=false/\
   aE P k (F.set a.block (.cells (c.setIfInBounds a.off v) e fr)) Q
 | .new o k,F,Q=>∀b,F b=none->aE P (k b) (F.set b o) Q
 | .shape r k,F,Q=>∃o,F r=some o/\aE P (k (ji o)) F Q
 | .freeze a n k,F,Q=>if n=0 then aE P k F Q else ∃c e fr,F a.block=some (.cells c e fr)/\
   aE P k (F.set a.block (.cells c e (if fr.1==fr.2 then (a.off,a.off+n) else (min fr.1 a.off,max fr.2 (a.off+n))))) Q
 | .frozen a k,F,Q=>∃o,F a.block=some o/\aE P (k (sj o a.off)) F Q
 | .getObj r k,F,Q=>∃o,F r=some o/\(∀c e fr,o≠.cells c e fr)/\aE P (k o) F Q
 | .setObj r o k,F,Q=>∃o',F r=some o'/\(∀c e fr,o'≠.cells c e fr)/\aE P k (F.set r o) Q
 | .choose q k,F,Q=>if q.forced then aE P (k 0) F Q else ∀t,aE P (k (q.cut t)) F Q
 | .sys _ _,_,_=>False
 | .program k,F,Q=>aE P (k P) F Q
 | .mark _ k,F,Q=>aE P k F Q
 | .halt _,_,_=>False
section
variable {e:Ev} {w:World} {F:PH}
theorem Sat.cell (h:Sat e w F) {a:Addr} {v:Value} (hc:F.cell a=some v):w.cell? a=some v:=by
 unfold PH.cell at hc
 unfold World.cell?
 split at hc
 ·rename_i c t fr hb
  rw [h.heap _ _ hb]
  exact hc
 ·cases hc
theorem Sat.lt (h:Sat e w F) {b:Nat} {o:Obj} (hb:F b=some o):b<w.heap.size:=by
 have:=h.heap _ _ hb
 exact (Array.getElem?_eq_some_iff.1 this).1
theorem Sat.fresh (h:Sat e w F):F w.heap.size=none:=by
 cases hb:F w.heap.size with
 |none=>rfl
 |some o=>exact absurd (h.lt hb) (by omega)
theorem Sat.push (h:Sat e w F) (o:Obj):Sat e {w with heap:=w.heap.push o} (F.set w.heap.size o):=by
 refine ⟨h.os,h.tape,h.output,fun b o' hb=> ?_,fun b o' hb=> ?_⟩
 ·unfold PH.set at hb
  split at hb
  ·rename_i hbs
   subst hbs
   simpa using hb
  ·rename_i hbs
   have h1:=h.heap _ _ hb
   have h2:=h.lt hb
   show (w.heap.push o)[b]? =some o'
   rw [Array.getElem?_push,if_neg (by omega)]
   exact h1
 ·obtain ⟨h1,h2⟩:=h.frame b o' hb
  have hlt:=(Array.getElem?_eq_some_iff.1 h2).1
  refine ⟨?_,?_⟩
  ·unfold PH.set
   rw [if_neg (by omega)]
   exact h1
  ·show (w.heap.push o)[b]? =some o'
   rw [Array.getElem?_push,if_neg (by omega)]
   exact h2
theorem Sat.modify (h:Sat e w F) {r:Nat} {o o0:Obj} (hr:F r=some o0) (heap':Array Obj) (h1:heap'[r]? =some o) (h2:∀b,b≠r->heap'[b]? =w.heap[b]?):
  Sat e {w with heap:=heap'} (F.set r o):=by
 refine ⟨h.os,h.tape,h.output,fun b o' hb=> ?_,fun b o' hb=> ?_⟩
 ·unfold PH.set at hb
  split at hb
  ·rename_i hbs
   subst hbs
   exact h1.trans hb
  ·rename_i hbs
   exact (h2 b hbs).trans (h.heap _ _ hb)
 ·obtain ⟨h3,h4⟩:=h.frame b o' hb
  have hb':b≠r:=fun e=>by rw [e,hr] at h3;cases h3
  exact ⟨by unfold PH.set;rw [if_neg hb'];exact h3,(h2 b hb').trans h4⟩
theorem Sat.drawn (h:Sat e w F) (n:Nat):Sat e {w with drawn:=n} F:=⟨h.os,h.tape,h.output,h.heap,h.frame⟩
theorem xR {α:Type} {P:Program} {e:Ev} (s:Sem α):∀(F:PH) (w:World) (Q:α->PH->Prop),aE P s F Q->Sat e w F->
  ∃a w' F',s.run P w=.ok a w'/\Sat e w' F'/\Q a F':=by
 induction s with
 |pure a=>intro F w Q h hs;exact ⟨a,w,F,rfl,hs,h⟩
 |load m a k ih=>
  intro F w Q h hs
  obtain ⟨v,hc,h⟩:=h
  simp only [Sem.run,hs.cell hc]
  exact ih v F w Q h hs
 |store m a v k ih=>
  intro F w Q h hs
  obtain ⟨⟨h1,h2⟩,c,t,fr,hb,hsp,hlt,hfr,h⟩:=h
  have hheap:=hs.heap _ _ hb
  have hcell:w.cell? a=some c[a.off]:=by simp [World.cell?,hheap,hsp,hlt]
  have hfz:w.frozen? a=false:=by
   obtain ⟨lo,hi⟩:=fr
   simpa [World.frozen?,hheap,frz] using hfr
  have hrun:(Sem.store m a v k).run P w=k.run P (w.setCell a v):=by
   cases v<;>first|exact absurd rfl (h1 _)|exact absurd rfl (h2 _)|simp [Sem.run,hcell,hfz]
  rw [hrun]
  refine ih _ _ Q h ?_
  have:w.setCell a v={w with heap:=(w.setCell a v).heap}:=rfl
  rw [this]
  refine hs.modify hb _ ?_ (fun b hb'=> ?_)
  ·simp [World.setCell,Array.getElem?_modify,hheap,hsp]
  ·simp only [World.setCell,Array.getElem?_modify]
   rw [if_neg (fun h=>hb' h.symm)]
 |new o k ih=>
  intro F w Q h hs
  exact ih _ _ _ Q (h _ hs.fresh) (hs.push o)
 |shape r k ih=>
  intro F w Q h hs
  obtain ⟨o,hb,h⟩:=h
  have hheap:=hs.heap _ _ hb
  have:w.shape? r=(ji o):=by
   unfold World.shape?
   rw [hheap]
   cases o<;>simp [ji]
  simp only [Sem.run,this]
  exact ih _ F w Q h hs
 |freeze a n k ih=>
  intro F w Q h hs
  simp only [Sem.run,World.freeze]
  unfold aE at h
  split at h
  ·rename_i hn
   rw [if_pos hn]
   exact ih F w Q h hs
  ·rename_i hn
   rw [if_neg hn]
   obtain ⟨c,t,fr,hb,h⟩:=h
   have hheap:=hs.heap _ _ hb
   refine ih _ _ Q h (hs.modify hb _ ?_ (fun b hb'=> ?_))
   ·simp [Array.getElem?_modify,hheap]
   ·rw [Array.getElem?_modify,if_neg (fun h=>hb' h.symm)]
 |frozen a k ih=>
  intro F w Q h hs
  obtain ⟨o,hb,h⟩:=h
  have hheap:=hs.heap _ _ hb
  have:w.frozen? a=(sj o a.off):=by
   unfold World.frozen?
   rw [hheap]
   cases o<;>simp [sj,frz]
  simp only [Sem.run,this]
  exact ih _ F w Q h hs
 |getObj r k ih=>
  intro F w Q h hs
  obtain ⟨o,hb,hn,h⟩:=h
  have hheap:=hs.heap _ _ hb
  have:(Sem.getObj r k).run P w=(k o).run P w:=by
   cases o<;>first|exact absurd rfl (hn _ _ _)|simp only [Sem.run,hheap]
  rw [this]
  exact ih _ F w Q h hs
 |setObj r o k ih=>
  intro F w Q h hs
  obtain ⟨o',hb,hn,h⟩:=h
  have hheap:=hs.heap _ _ hb
  have hlt:=hs.lt hb
  have:(Sem.setObj r o k).run P w=k.run P {w with heap:=w.heap.setIfInBounds r o}:=by
   cases o'<;>first|exact absurd rfl (hn _ _ _)|simp only [Sem.run,hheap]
  rw [this]
  refine ih _ _ Q h (hs.modify hb _ ?_ (fun b hb'=> ?_))
  ·simp [hlt]
  ·rw [Array.getElem?_setIfInBounds_ne (fun h=>hb' h.symm)]
 |choose q k ih=>
  intro F w Q h hs
  simp only [Sem.run]
  unfold aE at h
  split
  ·rename_i hf
   rw [if_pos hf] at h
   exact ih _ F w Q h hs
  ·rename_i hf
   rw [if_neg hf] at h
   exact ih _ F _ Q (h _) (hs.drawn _)
 |sys c k ih=>intro F w Q h;exact h.elim
 |program k ih=>intro F w Q h hs;exact ih _ F w Q h hs
 |mark m k ih=>intro F w Q h hs;exact ih F w Q h hs
 |halt h=>intro F w Q h;exact h.elim
end
theorem sk {α β:Type} {P:Program} (s:Sem α) (f:α->Sem β):∀(F:PH) (Q:β->PH->Prop),
  aE P (s.bind f) F Q↔aE P s F (fun a F'=>aE P (f a) F' Q):=by
 induction s with
 |pure a=>intro F Q;rfl
 |load m a k ih=>intro F Q;simp only [Sem.bind,aE,ih]
 |store m a v k ih=>intro F Q;simp only [Sem.bind,aE,ih]
 |new o k ih=>intro F Q;simp only [Sem.bind,aE,ih]
 |shape r k ih=>intro F Q;simp only [Sem.bind,aE,ih]
 |freeze a n k ih=>intro F Q;simp only [Sem.bind,aE,ih]
 |frozen a k ih=>intro F Q;simp only [Sem.bind,aE,ih]
 |getObj r k ih=>intro F Q;simp only [Sem.bind,aE,ih]
 |setObj r o k ih=>intro F Q;simp only [Sem.bind,aE,ih]
 |choose q k ih=>intro F Q;simp only [Sem.bind,aE,ih]
 |sys c k ih=>intro F Q;simp only [Sem.bind,aE]
 |program k ih=>intro F Q;simp only [Sem.bind,aE,ih]
 |mark m k ih=>intro F Q;simp only [Sem.bind,aE,ih]
 |halt h=>intro F Q;simp only [Sem.bind,aE]
theorem aA {α β:Type} {P:Program} (s:Sem α) (f:α->Sem β) (F:PH) (Q:β->PH->Prop):
  aE P (s>>=f) F Q↔aE P s F (fun a F'=>aE P (f a) F' Q):=sk s f F Q
theorem cW {α:Type} {P:Program} (s:Sem α):∀(F:PH) {Q Q':α->PH->Prop},aE P s F Q->(∀a F,Q a F->Q' a F)->aE P s F Q':=by
 induction s with
 |pure a=>intro F Q Q' h hq;exact hq _ _ h
 |load m a k ih=>rintro F Q Q' ⟨v,h1,h⟩ hq;exact ⟨v,h1,ih v F h hq⟩
 |store m a v k ih=>rintro F Q Q' ⟨h1,c,e,fr,h2,h3,h4,h5,h⟩ hq;exact ⟨h1,c,e,fr,h2,h3,h4,h5,ih _ h hq⟩
 |new o k ih=>intro F Q Q' h hq b hb;exact ih _ _ (h b hb) hq
 |shape r k ih=>rintro F Q Q' ⟨o,h1,h⟩ hq;exact ⟨o,h1,ih _ F h hq⟩
 |freeze a n k ih=>
  intro F Q Q' h hq
  unfold aE at h ⊢
  split at h
  ·rename_i hn;rw [if_pos hn];exact ih F h hq
  ·rename_i hn;rw [if_neg hn];obtain ⟨c,e,fr,h1,h⟩:=h;exact ⟨c,e,fr,h1,ih _ h hq⟩
 |frozen a k ih=>rintro F Q Q' ⟨o,h1,h⟩ hq;exact ⟨o,h1,ih _ F h hq⟩
 |getObj r k ih=>rintro F Q Q' ⟨o,h1,h2,h⟩ hq;exact ⟨o,h1,h2,ih _ F h hq⟩
 |setObj r o k ih=>rintro F Q Q' ⟨o',h1,h2,h⟩ hq;exact ⟨o',h1,h2,ih _ h hq⟩
 |choose q k ih=>
  intro F Q Q' h hq
  unfold aE at h ⊢
  split at h
  ·rename_i hn;rw [if_pos hn];exact ih _ F h hq
  ·rename_i hn;rw [if_neg hn];exact fun t=>ih _ F (h t) hq
 |sys c k ih=>intro F Q Q' h;exact h.elim
 |program k ih=>intro F Q Q' h hq;exact ih _ F h hq
 |mark m k ih=>intro F Q Q' h hq;exact ih F h hq
 |halt h=>intro F Q Q' h;exact h.elim
abbrev En:=Nat->Value
def upd (E:En) (d:Nat) (v:Value):En:=fun t=>bif Nat.beq t d then v else E t
def cO (E:En):Option Tmp->Value->En
 |some d,v=>upd E d v
 |none,_=>E
def ev (E:En):Operand->Value
 | .tmp t=>E t
 | .const v=>v
 | .global g=> .pointer (some ⟨g,0,none⟩)
 | .func f=> .func (.func f) #[] #[]
def MH (args:List Value):En:=fun t=>args.getD t undef
structure Ag (n:Nat) (a:Act) (E:En):Prop where
 size:a.tmps.size=n
 defers:a.defers=[]
 val:∀t,a.tmps.getD t undef=E t
theorem Ag.eval {n:Nat} {a:Act} {E:En} (h:Ag n a E):a.eval=ev E:=by
 funext x
 cases x with
 |tmp t=>exact h.val t
 |_=>rfl
def fk (n:Nat):Option Tmp->Bool
 |some d=>Nat.blt d n
 |none=>true
theorem jV {i j:Nat} (h:¬i=j):Nat.beq i j=false:=by
 cases hb:Nat.beq i j with
 |false=>rfl
 |true=>exact absurd (Nat.eq_of_beq_eq_true hb) h
theorem Ag.put {n:Nat} {a:Act} {E:En} (h:Ag n a E) {d:Option Tmp} (v:Value) (hd:fk n d=true):Ag n (a.put d v) (cO E d v):=by
 cases d with
 |none=>exact h
 |some d=>
  have hlt:d<n:=by simpa [fk,Nat.blt_eq] using hd
  refine ⟨by simp [Act.put,h.size],h.defers,fun t=> ?_⟩
  simp only [Act.put,cO,upd]
  have hv:=h.val t
  by_cases ht:t=d
  ·subst ht
   simp [Array.getD_eq_getD_getElem?,h.size,hlt]
  ·have:Nat.beq t d=false:=jV ht
   simp only [this,cond_false]
   rw [<- hv]
   simp [Array.getD_eq_getD_getElem?,Array.getElem?_setIfInBounds_ne (Ne.symm ht)]
def QL (e:Ev) (n:Nat) (Q:Exit->En->PH->Prop):Exit->Act->World->Prop:=fun x a w=>∃E F,Ag n a E/\Sat e w F/\Q x E F
def ae (P:Program) (f:FuncId) (args:Array Value) (F:PH) (R:Value->PH->Prop):Prop:=
 ∀e w,Sat e w F->Calls P f args w fun en w'=>∃v F',en=.returned v/\Sat e w' F'/\R v F'
def PH.and (F H:PH):PH:=fun b=>match F b with|some o=>some o|none=>H b
theorem PH.and_left {F H:PH} {b:Nat} {o:Obj} (h:F b=some o):(F.and H) b=some o:=by simp [PH.and,h]
theorem PH.and_right {F H:PH} {b:Nat} (h:F b=none):(F.and H) b=H b:=by simp [PH.and,h]
theorem ae.beside {P:Program} {f:FuncId} {args:Array Value} {F H:PH} {R:Value->PH->Prop} (h:ae P f args F R) (hd:∀b o,H b=some o->F b=none):
  ae P f args (F.and H) fun v F'=>∃G,R v G/\F'=G.and H/\∀b o,H b=some o->G b=none:=by
 intro e w hs
 have hand:∀{F:PH} {b:Nat},(F.and H) b=none->F b=none/\H b=none:=fun {F b} hb=>by
  unfold PH.and at hb
  split at hb
  ·cases hb
  ·rename_i hf
   exact ⟨hf,hb⟩
 refine (h ⟨e.os,e.tape,e.output,e.fr.and H⟩ w ⟨hs.os,hs.tape,hs.output,fun b o hb=>hs.heap b o (PH.and_left hb),fun b o hb=> ?_⟩).mono ?_
 ·simp only [PH.and] at hb
  split at hb
  ·rename_i o' ho'
   cases hb
   obtain ⟨h1,h2⟩:=hs.frame b _ ho'
   exact ⟨(hand h1).1,h2⟩
  ·have hn:=hd b o hb
   exact ⟨hn,hs.heap b o ((PH.and_right hn).trans hb)⟩
 ·rintro en w' ⟨v,G,rfl,hg,hr⟩
  have hdis:∀b o,H b=some o->G b=none:=fun b o hb=>by
   have hx:∃o',(e.fr.and H) b=some o':=by
    cases hf:e.fr b with
    |none=>exact ⟨o,(PH.and_right hf).trans hb⟩
    |some o'=>exact ⟨o',PH.and_left hf⟩
   obtain ⟨o',ho'⟩:=hx
   exact (hg.frame b o' ho').1
  refine ⟨v,_,rfl,⟨hg.os,hg.tape,hg.output,fun b o hb=> ?_,fun b o hb=> ?_⟩,G,hr,rfl,hdis⟩
  ·cases hG:G b with
   |some o'=>
    rw [PH.and_left hG] at hb
    cases hb
    exact hg.heap b _ hG
   |none=>
    rw [PH.and_right hG] at hb
    have hfr:e.fr b=none:=by
     cases hf:e.fr b with
     |none=>rfl
     |some o'=>
      have:=(hand (hs.frame b o' hf).1).2
      rw [hb] at this;cases this
    exact (hg.frame b o ((PH.and_right hfr).trans hb)).2
  ·obtain ⟨h1,_⟩:=hs.frame b o hb
   have h3:=(hand h1).2
   obtain ⟨h4,h5⟩:=hg.frame b o (PH.and_left hb)
   exact ⟨by rw [PH.and_right h4];exact h3,h5⟩
theorem ae.mono {P:Program} {f:FuncId} {args:Array Value} {F:PH} {R R':Value->PH->Prop} (h:ae P f args F R) (hr:∀v F',R v F'->R' v F'):
  ae P f args F R':=fun e w hs=>(h e w hs).mono fun _ _ ⟨v,F',h1,h2,h3⟩=>⟨v,F',h1,h2,hr v F' h3⟩
def HC (P:Program) (n:Nat) (c:Code) (Q:Exit->En->PH->Prop) (E:En) (F:PH):Prop:=
 ∀e a w,Ag n a E->Sat e w F->c.wp P (QL e n Q) a w
def HL (P:Program) (n:Nat) (ops:Array Oper) (Q:Exit->En->PH->Prop) (l:List Oper) (E:En) (F:PH):Prop:=
 ∀e a w,Ag n a E->Sat e w F->wpList P ops (QL e n Q) l a w
abbrev JG (K:En->PH->Prop) (Q:Exit->En->PH->Prop):Exit->En->PH->Prop
 | .normal,E,F=>K E F
 |x,E,F=>Q x E F
abbrev D8 (id:Nat) (Q:Exit->En->PH->Prop):Exit->En->PH->Prop
 | .exit i,E,F=>bif Nat.beq i id then Q .normal E F else Q (.exit i) E F
 |x,E,F=>Q x E F
section
variable {P:Program} {n:Nat} {Q:Exit->En->PH->Prop} {E:En} {F:PH}
theorem HG (h:Q .normal E F):HC P n .skip Q E F:=fun _ _ _ ag st=>wp_skip ⟨E,F,ag,st,h⟩
theorem MI (h:Q .ret E F):HC P n .ret Q E F:=fun _ _ _ ag st=>wp_ret ⟨E,F,ag,st,h⟩
theorem HH {id:Nat} (h:Q (.exit id) E F):HC P n (.exit id) Q E F:=fun _ _ _ ag st=>wp_exit ⟨E,F,ag,st,h⟩
theorem xS {x y:Code} (h:HC P n x (JG (HC P n y Q) Q) E F):HC P n (.seq x y) Q E F:=fun e a w ag st=>
 wp_seq (wp_mono (h e a w ag st) fun ex a' w' ⟨E',F',ag',st',q⟩=>by
  cases ex with
  |normal=>exact q e a' w' ag' st'
  |_=>exact ⟨E',F',ag',st',q⟩)
theorem nz {c:Operand} {x y:Code} {t:Bool} (hc:ev E c=.bool t) (h1:t=true->HC P n x Q E F) (h2:t=false->HC P n y Q E F):
  HC P n (.cond c x y) Q E F:=fun e a w ag st=>
 wp_cond_split (by rw [ag.eval];exact hc) (fun ht=>h1 ht e a w ag st) (fun ht=>h2 ht e a w ag st)
theorem D9 {id:Nat} {c:Code} (h:HC P n c (D8 id Q) E F):HC P n (.block id c) Q E F:=fun e a w ag st=>
 wp_block (wp_mono (h e a w ag st) fun ex a' w' ⟨E',F',ag',st',q⟩=>by
  cases ex with
  |exit i=>
   simp only [Exit.inBlock,D8] at q ⊢
   by_cases hi:i=id
   ·subst hi
    have:Nat.beq i i=true:=by simp
    simp only [this,cond_true] at q
    rw [if_pos rfl]
    exact ⟨E',F',ag',st',q⟩
   ·have:Nat.beq i id=false:=jV hi
    simp only [this,cond_false] at q
    rw [if_neg hi]
    exact ⟨E',F',ag',st',q⟩
  |_=>exact ⟨E',F',ag',st',q⟩)
theorem HI {c:Code} (I:Nat->En->PH->Prop) (m0:Nat) (h0:I m0 E F)
  (round:∀m E F,I m E F->HC P n c (JG (fun E' F'=>∃m',m'<m/\I m' E' F') Q) E F):HC P n (.loop c) Q E F:=by
 intro e a w ag st b k cs
 have key:∀m a w E F,Ag n a E->Sat e w F->I m E F->
   ∃ex a' w',QL e n Q ex a' w'/\Arrives P (lone (b.at a (.code c::.inLoop c::k)) cs w) b k cs ex a' w':=by
  intro m
  induction m using Nat.strongRecOn with
  |_ m ih=>
   intro a w E F ag st hI
   obtain ⟨ex,a₁,w₁,hq,harr⟩:=round m E F hI e a w ag st b (.inLoop c::k) cs
   cases ex with
   |normal=>
    obtain ⟨E',F',ag',st',m',hlt,hI'⟩:=hq
    obtain ⟨e₂,a₂,w₂,hq₂,harr₂⟩:=ih m' hlt a₁ w₁ E' F' ag' st' hI'
    exact ⟨e₂,a₂,w₂,hq₂,.of_steps (Steps.trans harr (.one step_inLoop)) harr₂⟩
   |exit id=>exact ⟨_,a₁,w₁,hq,.pass (x:=.inLoop c) rfl (fun _ _=> .inl (by simp)) harr⟩
   |goto l=>exact ⟨_,a₁,w₁,hq,.pass (x:=.inLoop c) rfl (fun _ _=> .inl (by simp)) harr⟩
   |ret=>exact ⟨_,a₁,w₁,hq,.pass (x:=.inLoop c) rfl (fun _ _=> .inl (by simp)) harr⟩
   |panic ch=>exact ⟨_,a₁,w₁,hq,.pass (x:=.inLoop c) rfl (fun _ _=> .inl (by simp)) harr⟩
   |outgrown=>exact ⟨_,a₁,w₁,hq,.pass (x:=.inLoop c) rfl (fun _ _=> .inl (by simp)) harr⟩
 obtain ⟨ex,a',w',hq,harr⟩:=key m0 a w E F ag st h0
 exact ⟨ex,a',w',hq,.of_steps (.one step_loop) harr⟩
theorem Cr {id:Nat} {l:List Oper} (h:HL P n l.toArray Q l E F):HC P n (.region id l.toArray false) Q E F:=fun e a w ag st=>
 wp_region_lit (h e a w ag st)
def bB (P:Program) (K:En->PH->Prop) (o:Oper) (E:En):Next->PH->Prop
 | .value v,F=>K (cO E o.dst v) F
 | .skip,F=>K (cO E o.dst undef) F
 | .enter f args,F=>ae P f args F fun v F'=>K (cO E o.dst v) F'
 |_,_=>False
theorem JH {o:Oper} {e:Ev} {a:Act} {w:World} {K:En->PH->Prop} {K':Act->World->Prop} {Q':Exit->Act->World->Prop} (ag:Ag n a E) (st:Sat e w F) (hd:fk n o.dst=true)
  (hk:∀a w E F,Ag n a E->Sat e w F->K E F->K' a w)
  (h:aE P (execOp (ev E) o) F (bB P K o E)):o.wp P a w K' Q':=by
 obtain ⟨nx,w',F',hr,st',hq⟩:=xR _ F w _ h st
 unfold Oper.wp
 rw [ag.eval,hr]
 cases nx with
 |value v=>exact hk _ _ _ _ (ag.put v hd) st' hq
 |skip=>exact hk _ _ _ _ (ag.put undef hd) st' hq
 |enter f args=>
  refine (hq e w' st').mono ?_
  rintro _ w'' ⟨v,F'',rfl,st'',hK⟩
  exact hk _ _ _ _ (ag.put v hd) st'' hK
 |_=>exact hq.elim
def yE (ops:Array Oper) (E:En) (j:Nat):Option Bool:=
 match (ops[j]?).bind (·.dst) with
 |some t=>(match E t with| .bool b=>some b|_=>none)
 |none=>none
theorem Ag.yE_eq {a:Act} (h:Ag n a E) (ops:Array Oper) (j:Nat):yielded ops a.tmps j=yE ops E j:=by
 unfold yielded yE
 cases (ops[j]?).bind (·.dst) with
 |none=>rfl
 |some t=>
  have hv:=h.val t
  simp only [Option.bind_some]
  rw [<- hv,Array.getD_eq_getD_getElem?]
  cases a.tmps[t]? with
  |none=>rfl
  |some v=>cases v<;>rfl
theorem Ag.wanted_eq {a:Act} (h:Ag n a E) (ops:Array Oper) (o:Oper):Region.wanted o (yielded ops a.tmps)=Region.wanted o (yE ops E):=by
 unfold Region.wanted
 cases o.guard with
 |none=>rfl
 |some g=>simp only [h.yE_eq]
theorem MJ {ops:Array Oper} (h:Q .normal E F):HL P n ops Q [] E F:=fun _ _ _ ag st=>wpList_nil ⟨E,F,ag,st,h⟩
theorem JI {ops:Array Oper} {o:Oper} {l:List Oper} (hw:Region.wanted o (yE ops E)=true) (hd:fk n o.dst=true)
  (h:aE P (execOp (ev E) o) F (bB P (HL P n ops Q l) o E)):HL P n ops Q (o::l) E F:=fun e a w ag st=>by
 unfold wpList
 rw [ag.wanted_eq,if_pos hw]
 exact .inl (JH ag st hd (fun a w E F ag st hk=>hk e a w ag st) h)
theorem HJ {ops:Array Oper} {o:Oper} {l:List Oper} (hw:Region.wanted o (yE ops E)=false) (hd:fk n o.dst=true)
  (h:HL P n ops Q l (cO E o.dst undef) F):HL P n ops Q (o::l) E F:=fun e a w ag st=>by
 unfold wpList
 rw [ag.wanted_eq,if_neg (by simp [hw])]
 exact h e _ _ (ag.put undef hd) st
def pm (P:Program) (fn:Func) (E:En) (F:PH) (v:Value):Prop:=
 ∀e w tmps,Sat e w F->(∀t:Nat,Array.getD tmps t undef=E t)->(results fn tmps).run P w=.ok v w
abbrev HK (P:Program) (fn:Func) (R:Value->PH->Prop):Exit->En->PH->Prop
 | .normal,E,F| .ret,E,F=>∃v,pm P fn E F v/\R v F
 |_,_,_=>False
theorem HM {f:FuncId} {fn:Func} {c:Code} {args:List Value} {R:Value->PH->Prop} (hf:P.funcs[f]? =some fn) (hb:fn.body=some c)
  (hn:fn.ntmps=n) (hs:Nat.ble args.length n=true) (h:HC P n c (HK P fn R) (MH args) F):ae P f args.toArray F R:=fun e w st=>by
 have hs':args.length<=n:=by simpa [Nat.ble_eq] using hs
 refine calls_of_wp hf hb ?_
 refine wp_mono (h e _ w ⟨?_,rfl,fun t=> ?_⟩ st) ?_
 ·simp [hn];omega
 ·simp only [MH,Array.getD_eq_getD_getElem?,List.getD_eq_getElem?_getD,Array.getElem?_append,List.size_toArray,Array.getElem?_replicate]
  by_cases ht:t<args.length
  ·simp [ht]
  ·simp only [ht,if_false]
   rw [List.getElem?_eq_none (by omega)]
   split<;>rfl
 ·rintro ex a' w' ⟨E',F',ag',st',q⟩
  cases ex with
  |normal=>obtain ⟨v,hr,hR⟩:=q;exact ⟨ag'.defers,v,hr e w' _ st' ag'.val,v,F',rfl,st',hR⟩
  |ret=>obtain ⟨v,hr,hR⟩:=q;exact ⟨ag'.defers,v,hr e w' _ st' ag'.val,v,F',rfl,st',hR⟩
  |_=>exact q.elim
end
section
variable {P:Program} {ops:Array Oper} {md:Region.Mode}
def Oper.waits (md:Region.Mode) (o:Oper) (r:Nat):Bool:=o.after.toList.any fun e=>Region.binds md e && e.on==r
theorem xT {o:Oper} {r:Nat}:Oper.waits md o r=false↔∀e∈o.after,Region.binds md e=true->e.on≠r:=by
 unfold Oper.waits
 rw [<- Bool.not_eq_true,List.any_eq_true]
 constructor
 ·intro h x hx hb heq
  exact h ⟨x,by simpa using hx,by simp [hb,heq]⟩
 ·rintro h ⟨x,hx,hp⟩
  simp only [Bool.and_eq_true,beq_iff_eq] at hp
  exact h x (by simpa using hx) hp.1 hp.2
abbrev bW:=List (Nat×(World->Prop))
def bW.hold (Sp:bW) (w:World):Prop:=∀r∈Sp,r.2 w
def bW.rest (md:Region.Mode) (o:Oper) (Sp:bW):bW:=Sp.filter fun r=> !Oper.waits md o r.1
def gQ (P:Program) (md:Region.Mode) (ops:Array Oper) (Q:Exit->Act->World->Prop):Nat->Array Bool->bW->Act->World->Prop
 |0,listed,_,a,w=>Region.ready md ops listed=[]/\Q .normal a w
 |fuel+1,listed,Sp,a,w=>
  (Region.ready md ops listed=[]->Q .normal a w)/\
  ∀i∈Region.ready md ops listed,∀o,ops[i]? =some o->
   wpOp P ops Q i (fun a' w'=>(Sp.rest md o).hold w'/\gQ P md ops Q fuel (listed.setIfInBounds i true) (Sp.rest md o) a' w') a w
variable {Q:Exit->Act->World->Prop}
theorem po:∀(fuel:Nat) (listed:Array Bool) (Sp:bW) (a:Act) (w:World),gQ P md ops Q fuel listed Sp a w->wpAny P md ops Q fuel listed a w
 |0,_,_,_,_,h=>h
 |fuel+1,_,_,_,_,h=>⟨h.1,fun i hi=>by
   obtain ⟨_,o,ho,_⟩:=mem_ready.1 hi
   exact wpOp_mono (fun a' w' h'=>po fuel _ _ a' w' h'.2) (h.2 i hi o ho)⟩
theorem bW.rest_sub {o:Oper} {Sp Sp':bW} (h:∀r∈Sp',r∈Sp):∀r∈bW.rest md o Sp',r∈bW.rest md o Sp:=by
 intro r hr
 unfold bW.rest at*
 rw [List.mem_filter] at*
 exact ⟨h r hr.1,hr.2⟩
theorem pq:∀(fuel:Nat) (listed:Array Bool) (Sp Sp':bW) (a:Act) (w:World),(∀r∈Sp',r∈Sp)->gQ P md ops Q fuel listed Sp a w->
  gQ P md ops Q fuel listed Sp' a w
 |0,_,_,_,_,_,_,h=>h
 |fuel+1,_,_,_,_,_,hs,h=>⟨h.1,fun i hi o ho=>wpOp_mono (fun a' w' h'=>⟨fun r hr=>h'.1 r (bW.rest_sub hs r hr),pq fuel _ _ _ a' w' (bW.rest_sub hs) h'.2⟩) (h.2 i hi o ho)⟩
theorem kq {S:World->Prop} {i:Nat} {oi:Oper} {v:Value} (hi:ops[i]? =some oi) (hsel:∀(j:Nat) (o:Oper) cs b,ops[j]? =some o->o.op≠.select cs b)
  (hQ:∀c a w,Q (.panic c) (a.put oi.dst v) w->Q (.panic c) a w):
  ∀(fuel:Nat) (listed:Array Bool) (Sp:bW) (a:Act) (w:World),
   (∀j oj,ops[j]? =some oj->j≠i->listed.getD j true=false->(∀e∈oj.after,Region.binds md e=true->e.on≠i)->oi.apart ops oj=true)->
   i∈Region.ready md ops listed->YieldsIf P ops S oi v a->S w->Sp.hold w->
   gQ P md ops Q fuel (listed.setIfInBounds i true) ((i,S)::Sp) (a.put oi.dst v) w->gQ P md ops Q (fuel+1) listed Sp a w:=by
 intro fuel
 induction fuel with
 |zero=>
  intro listed Sp a w _ hr hy hS hh H
  refine ⟨fun h=>(by rw [h] at hr;cases hr),fun j hj oj hoj=> ?_⟩
  by_cases hji:j=i
  ·subst hji
   exact hy.wpOp hi hS ⟨fun r hr'=>hh r (List.mem_filter.1 hr').1,H⟩
  ·have:=ready_mono hj hji
   rw [H.1] at this
   cases this
 |succ fuel ih=>
  intro listed Sp a w hfree hr hy hS hh H
  refine ⟨fun h=>(by rw [h] at hr;cases hr),fun j hj oj hoj=> ?_⟩
  by_cases hji:j=i
  ·subst hji
   refine hy.wpOp hi hS ⟨fun r hr'=>hh r (List.mem_filter.1 hr').1,?_⟩
   exact pq (fuel+1) _ _ _ _ _ (fun r hr'=>List.mem_cons_of_mem _ (List.mem_filter.1 hr').1) H
  ·have h1:=H.2 j (ready_mono hj hji) oj hoj
   obtain ⟨hjun,oj',hoj',hall⟩:=mem_ready.1 hj
   obtain rfl:oj'=oj:=by rw [hoj] at hoj';exact (Option.some.inj hoj').symm
   have hnot:∀e∈oj'.after,Region.binds md e=true->e.on≠i:=fun e he hb heq=>by
    have h1:=hall e he hb
    have h0:=(mem_ready.1 hr).1
    rw [heq] at h1
    rcases Nat.lt_or_ge i listed.size with h'|h'
    ·simp [h'] at h0 h1;rw [h0] at h1;cases h1
    ·simp [Array.getElem?_eq_none h'] at h1
   have hw:Oper.waits md oj' i=false:=xT.2 hnot
   have hrest:bW.rest md oj' ((i,S)::Sp)=(i,S)::bW.rest md oj' Sp:=by
    unfold bW.rest
    rw [List.filter_cons_of_pos (by simp [hw])]
   rw [hrest] at h1
   have h2:=wpOp_putIf hoj (hfree j oj' hoj hji hjun hnot) (fun cs b=>hsel i oi cs b hi) (fun cs b=>hsel j oj' cs b hoj) hQ hy h1
   have hfree':∀k ok,ops[k]? =some ok->k≠i->(listed.setIfInBounds j true).getD k true=false->
     (∀e∈ok.after,Region.binds md e=true->e.on≠i)->oi.apart ops ok=true:=fun k ok hk hki hun hno=>by
    refine hfree k ok hk hki ?_ hno
    by_cases hjk:j=k
    ·subst hjk;exact hjun
    ·rw [getD_set_ne true hjk] at hun;exact hun
   refine wpOp_mono (fun a' w' h3=> ?_) h2
   obtain ⟨hy',hhold,h3⟩:=h3
   refine ⟨fun r hr'=>hhold r (List.mem_cons_of_mem _ hr'),?_⟩
   refine ih (listed.setIfInBounds j true) _ a' w' hfree' (ready_mono hr (Ne.symm hji)) hy' (hhold _ (List.mem_cons_self ..)) (fun r hr'=>hhold r (List.mem_cons_of_mem _ hr')) ?_
   rw [Array.setIfInBounds_comm _ _ hji]
   exact h3
end
section
variable {P:Program} {n:Nat} {Q:Exit->En->PH->Prop} {E:En} {F:PH} {ops:Array Oper}
def xU (F:PH) (S:World->Prop):Prop:=∀e w,Sat e w F->S w
def fJ (Sp:bW) (F:PH):Prop:=∀r∈Sp,xU F r.2
def RG (P:Program) (n:Nat) (ops:Array Oper) (Q:Exit->En->PH->Prop) (fuel:Nat) (listed:Array Bool) (Sp:bW) (E:En) (F:PH):Prop:=
 ∀e a w,Ag n a E->Sat e w F->gQ P .any ops (QL e n Q) fuel listed Sp a w
theorem HN {id:Nat} (hm:P.follows .mixedOrders=true) (h:RG P n ops Q ops.size (Array.replicate ops.size false) [] E F):
  HC P n (.region id ops true) Q E F:=fun e a w ag st=>
 wp_region_any hm (po _ _ _ _ _ (h e a _ ag (st.drawn _)))
theorem HO {fuel:Nat} {listed:Array Bool} {Sp:bW} (hr:Region.ready .any ops listed=[]) (h:Q .normal E F):RG P n ops Q fuel listed Sp E F:=
 fun e a w ag st=>by
  cases fuel with
  |zero=>exact ⟨hr,E,F,ag,st,h⟩
  |succ fuel=>exact ⟨fun _=>⟨E,F,ag,st,h⟩,by rw [hr];simp⟩
def JJ (P:Program) (S:World->Prop) (E:En) (o:Oper) (v:Value):Prop:=∀w,S w->(execOp (ev E) o).run P w=.ok (.value v) w
theorem zR {S:World->Prop} {i:Nat} {oi:Oper} {v:Value} {fuel:Nat} {listed:Array Bool} {Sp:bW} (hi:ops[i]? =some oi)
  (hs:Region.noSelect ops=true) (hf:Region.free .any ops listed i=true) (hr:(Region.ready .any ops listed).contains i=true) (hd:fk n oi.dst=true)
  (hp:∀c E F,¬Q (.panic c) E F) (hw:Region.wanted oi (yE ops E)=true) (hy:JJ P S E oi v) (hS:xU F S) (hh:fJ Sp F)
  (h:RG P n ops Q fuel (listed.setIfInBounds i true) ((i,S)::Sp) (cO E oi.dst v) F):RG P n ops Q (fuel+1) listed Sp E F:=fun e a w ag st=>
 kq hi (Region.noSelect_spec hs) (fun c a w ⟨E,F,_,_,q⟩=>(hp c E F q).elim) fuel listed Sp a w (Region.free_spec hi hf) (by simpa using hr)
  (.inl ⟨by rw [ag.wanted_eq];exact hw,fun w hw'=>by rw [ag.eval];exact hy w hw'⟩) (hS e w st) (fun r hr=>hh r hr e w st) (h e _ w (ag.put v hd) st)
theorem iJ {Q:Exit->Act->World->Prop} {md:Region.Mode} (i:Nat):∀(fuel:Nat) (listed:Array Bool) (Sp:bW) (a:Act) (w:World),gQ P md ops Q fuel listed Sp a w->
  gQ P md ops Q fuel listed ((i,fun _=>True)::Sp) a w
 |0,_,_,_,_,h=>h
 |fuel+1,_,Sp,_,_,h=>⟨h.1,fun j hj o ho=>wpOp_mono (fun a' w' h'=>by
   by_cases hw:Oper.waits md o i=true
   ·have:bW.rest md o ((i,fun _=>True)::Sp)=bW.rest md o Sp:=by
     unfold bW.rest;rw [List.filter_cons_of_neg (by simp [hw])]
    rw [this]
    exact h'
   ·have:bW.rest md o ((i,fun _=>True)::Sp)=(i,fun _=>True)::bW.rest md o Sp:=by
     unfold bW.rest;rw [List.filter_cons_of_pos (by simpa using hw)]
    rw [this]
    refine ⟨fun r hr=> ?_,iJ i fuel _ _ a' w' h'.2⟩
    rcases List.mem_cons.1 hr with rfl|hr
    ·trivial
    ·exact h'.1 r hr) (h.2 j hj o ho)⟩
theorem HP {i:Nat} {oi:Oper} {v:Value} {fuel:Nat} {listed:Array Bool} {Sp:bW} (hi:ops[i]? =some oi)
  (hs:Region.noSelect ops=true) (hf:Region.free .any ops listed i=true) (hr:(Region.ready .any ops listed).contains i=true) (hd:fk n oi.dst=true)
  (hp:∀c E F,¬Q (.panic c) E F) (hw:Region.wanted oi (yE ops E)=true) (hy:JJ P (fun _=>True) E oi v) (hh:fJ Sp F)
  (h:RG P n ops Q fuel (listed.setIfInBounds i true) Sp (cO E oi.dst v) F):RG P n ops Q (fuel+1) listed Sp E F:=
 zR (S:=fun _=>True) hi hs hf hr hd hp hw hy (fun _ _ _=>trivial) hh fun e a w ag st=>iJ i _ _ _ _ _ (h e a w ag st)
theorem HQ {i:Nat} {oi:Oper} {fuel:Nat} {listed:Array Bool} {Sp:bW} (hi:ops[i]? =some oi)
  (hs:Region.noSelect ops=true) (hf:Region.free .any ops listed i=true) (hr:(Region.ready .any ops listed).contains i=true) (hd:fk n oi.dst=true)
  (hp:∀c E F,¬Q (.panic c) E F) (hw:Region.wanted oi (yE ops E)=false) (hh:fJ Sp F)
  (h:RG P n ops Q fuel (listed.setIfInBounds i true) Sp (cO E oi.dst undef) F):RG P n ops Q (fuel+1) listed Sp E F:=fun e a w ag st=>
 kq (S:=fun _=>True) hi (Region.noSelect_spec hs) (fun c a w ⟨E,F,_,_,q⟩=>(hp c E F q).elim) fuel listed Sp a w (Region.free_spec hi hf) (by simpa using hr)
  (.inr ⟨by rw [ag.wanted_eq];exact hw,rfl⟩) trivial (fun r hr=>hh r hr e w st) (iJ i _ _ _ _ _ (h e _ w (ag.put undef hd) st))
def TK (P:Program) (n:Nat) (ops:Array Oper) (Q:Exit->En->PH->Prop) (fuel:Nat) (listed:Array Bool) (Sp:bW) (E:En) (F:PH) (i:Nat):Prop:=
 ∃o,ops[i]? =some o/\fk n o.dst=true/\Region.wanted o (yE ops E)=true/\
  aE P (execOp (ev E) o) F (bB P (fun E' F'=>fJ (Sp.rest .any o) F'/\RG P n ops Q fuel (listed.setIfInBounds i true) (Sp.rest .any o) E' F') o E)
theorem MK {fuel:Nat} {listed:Array Bool} {Sp:bW} {rs:List Nat} (hr:Region.ready .any ops listed=rs) (hne:rs.isEmpty=false)
  (h:∀i∈rs,TK P n ops Q fuel listed Sp E F i):RG P n ops Q (fuel+1) listed Sp E F:=fun e a w ag st=>by
 subst hr
 refine ⟨fun h0=>(by rw [h0] at hne;cases hne),fun i hi o ho=> ?_⟩
 obtain ⟨o',ho',hd,hw,hrun⟩:=h i hi
 obtain rfl:o'=o:=by rw [ho] at ho';exact (Option.some.inj ho').symm
 unfold wpOp
 simp only [ho]
 rw [ag.wanted_eq,if_pos hw]
 exact .inl (JH ag st hd (fun a w E F ag st hk=>⟨fun r hr=>hk.1 r hr e w st,hk.2 e a w ag st⟩) hrun)
end
def rdo {α:Type} (P:Program):Sem α->PH->α->Prop
 | .pure a,_,v=>a=v
 | .load _ a k,F,v=>∃x,F.cell a=some x/\rdo P (k x) F v
 | .shape r k,F,v=>∃o,F r=some o/\rdo P (k (ji o)) F v
 | .frozen a k,F,v=>∃o,F a.block=some o/\rdo P (k (sj o a.off)) F v
 | .getObj r k,F,v=>∃o,F r=some o/\(∀c e fr,o≠.cells c e fr)/\rdo P (k o) F v
 | .program k,F,v=>rdo P (k P) F v
 | .mark _ k,F,v=>rdo P k F v
 |_,_,_=>False
theorem nA {α:Type} {P:Program} {e:Ev} (s:Sem α):∀(F:PH) (w:World) (v:α),rdo P s F v->Sat e w F->s.run P w=.ok v w:=by
 induction s with
 |pure a=>intro F w v h _;exact congrArg (fun x=>Result.ok x w) h
 |load m a k ih=>
  rintro F w v ⟨x,hc,h⟩ hs
  simp only [Sem.run,hs.cell hc]
  exact ih x F w v h hs
 |shape r k ih=>
  rintro F w v ⟨o,hb,h⟩ hs
  have hheap:=hs.heap _ _ hb
  have:w.shape? r=ji o:=by
   unfold World.shape?
   rw [hheap]
   cases o<;>simp [ji]
  simp only [Sem.run,this]
  exact ih _ F w v h hs
 |frozen a k ih=>
  rintro F w v ⟨o,hb,h⟩ hs
  have hheap:=hs.heap _ _ hb
  have:w.frozen? a=sj o a.off:=by
   unfold World.frozen?
   rw [hheap]
   cases o<;>simp [sj,frz]
  simp only [Sem.run,this]
  exact ih _ F w v h hs
 |getObj r k ih=>
  rintro F w v ⟨o,hb,hn,h⟩ hs
  have hheap:=hs.heap _ _ hb
  have:(Sem.getObj r k).run P w=(k o).run P w:=by
   cases o<;>first|exact absurd rfl (hn _ _ _)|simp only [Sem.run,hheap]
  rw [this]
  exact ih _ F w v h hs
 |program k ih=>intro F w v h hs;exact ih _ F w v h hs
 |mark m k ih=>intro F w v h hs;exact ih F w v h hs
 |_=>intro F w v h;exact h.elim
theorem ks {α:Type} {P:Program} (s:Sem α):∀(F:PH) (v:α) (Q:α->PH->Prop),rdo P s F v->Q v F->aE P s F Q:=by
 induction s with
 |pure a=>intro F v Q h hq;cases h;exact hq
 |load m a k ih=>rintro F v Q ⟨x,hc,h⟩ hq;exact ⟨x,hc,ih x F v Q h hq⟩
 |shape r k ih=>rintro F v Q ⟨o,hb,h⟩ hq;exact ⟨o,hb,ih _ F v Q h hq⟩
 |frozen a k ih=>rintro F v Q ⟨o,hb,h⟩ hq;exact ⟨o,hb,ih _ F v Q h hq⟩
 |getObj r k ih=>rintro F v Q ⟨o,hb,hn,h⟩ hq;exact ⟨o,hb,hn,ih _ F v Q h hq⟩
 |program k ih=>intro F v Q h hq;exact ih _ F v Q h hq
 |mark m k ih=>intro F v Q h hq;exact ih F v Q h hq
 |_=>intro F v Q h;exact h.elim
theorem ak {α β:Type} {P:Program} (s:Sem α) (f:α->Sem β):∀(F:PH) (v:β),rdo P (s>>=f) F v↔∃a,rdo P s F a/\rdo P (f a) F v:=by
 show ∀(F:PH) (v:β),rdo P (s.bind f) F v↔_
 induction s with
 |pure a=>
  intro F v
  simp only [Sem.bind,rdo]
  exact ⟨fun h=>⟨a,rfl,h⟩,by rintro ⟨_,rfl,h⟩;exact h⟩
 |load m a k ih=>
  intro F v
  simp only [Sem.bind,rdo,ih]
  exact ⟨fun ⟨x,hc,a,h1,h2⟩=>⟨a,⟨x,hc,h1⟩,h2⟩,fun ⟨a,⟨x,hc,h1⟩,h2⟩=>⟨x,hc,a,h1,h2⟩⟩
 |shape r k ih=>
  intro F v
  simp only [Sem.bind,rdo,ih]
  exact ⟨fun ⟨x,hc,a,h1,h2⟩=>⟨a,⟨x,hc,h1⟩,h2⟩,fun ⟨a,⟨x,hc,h1⟩,h2⟩=>⟨x,hc,a,h1,h2⟩⟩
 |frozen a k ih=>
  intro F v
  simp only [Sem.bind,rdo,ih]
  exact ⟨fun ⟨x,hc,a,h1,h2⟩=>⟨a,⟨x,hc,h1⟩,h2⟩,fun ⟨a,⟨x,hc,h1⟩,h2⟩=>⟨x,hc,a,h1,h2⟩⟩
 |getObj r k ih=>
  intro F v
  simp only [Sem.bind,rdo,ih]
  exact ⟨fun ⟨x,hc,hn,a,h1,h2⟩=>⟨a,⟨x,hc,hn,h1⟩,h2⟩,fun ⟨a,⟨x,hc,hn,h1⟩,h2⟩=>⟨x,hc,hn,a,h1,h2⟩⟩
 |program k ih=>intro F v;simp only [Sem.bind,rdo,ih]
 |mark m k ih=>intro F v;simp only [Sem.bind,rdo,ih]
 |_=>intro F v;simp [Sem.bind,rdo]
@[simp] theorem cg {α:Type} {P:Program} (a v:α) (F:PH):rdo P (pure a:Sem α) F v↔a=v:=Iff.rfl
@[simp] theorem aM {α:Type} {P:Program} (a:α) (F:PH) (Q:α->PH->Prop):aE P (pure a:Sem α) F Q↔Q a F:=Iff.rfl
@[simp] theorem HR {α β:Type} {P:Program} (f:α->β) (s:Sem α) (F:PH) (v:β):rdo P (f<$>s) F v↔∃a,rdo P s F a/\f a=v:=ak s (fun a=>pure (f a)) F v
@[simp] theorem OF {α β:Type} {P:Program} (f:α->β) (s:Sem α) (F:PH) (Q:β->PH->Prop):aE P (f<$>s) F Q↔aE P s F (fun a F'=>Q (f a) F'):=sk s (fun a=>pure (f a)) F Q
def tsz (P:Program) (t:TypeId):Option (Nat×Nat):=(P.info? t).map fun i=>(i.size,i.bytes)
def bk (P:Program) (t:TypeId):Option Value:=(P.info? t).bind (·.zero)
theorem pu {P:Program} {t s b:Nat} (h:tsz P t=some (s,b)):∃i,P.info? t=some i/\i.size=s/\i.bytes=b:=by
 unfold tsz at h
 cases hi:P.info? t with
 |none=>simp [hi] at h
 |some i=>simp [hi] at h;exact ⟨i,rfl,h.1,h.2⟩
theorem pv {P:Program} {t:Nat} {z:Value} (h:bk P t=some z):∃i,P.info? t=some i/\i.zero=some z:=by
 unfold bk at h
 cases hi:P.info? t with
 |none=>simp [hi] at h
 |some i=>simp [hi] at h;exact ⟨i,rfl,h⟩
section
variable {P:Program} {F:PH}
theorem bD {t s b:Nat} (h:tsz P t=some (s,b)) (v:Nat):rdo P (sizeOf t) F v↔s=v:=by
 obtain ⟨i,h1,h2,h3⟩:=pu h
 unfold sizeOf typeInfo program
 simp only [ak]
 constructor
 ·rintro ⟨i',⟨p,hp,h⟩,h'⟩
  simp only [rdo] at hp
  subst hp
  rw [h1] at h
  simp only [cg] at h h'
  subst h
  rw [<- h2];exact h'
 ·rintro rfl
  refine ⟨i,⟨P,rfl,?_⟩,?_⟩
  ·rw [h1];rfl
  ·rw [<- h2];rfl
theorem dS {t s b:Nat} (h:tsz P t=some (s,b)) (Q:Nat->PH->Prop):aE P (sizeOf t) F Q↔Q s F:=by
 obtain ⟨i,h1,h2,h3⟩:=pu h
 unfold sizeOf typeInfo program
 simp only [aA,aE,h1,aM,h2]
theorem dz {t s b:Nat} (h:tsz P t=some (s,b)):∃i:TypeInfo,i.bytes=b/\∀(F:PH) (Q:TypeInfo->PH->Prop),aE P (typeInfo t) F Q↔Q i F:=by
 obtain ⟨i,h1,h2,h3⟩:=pu h
 refine ⟨i,h3,fun F Q=> ?_⟩
 unfold typeInfo program
 simp only [aA,aE,h1,aM]
theorem av {t:Nat} {d:TypeDesc} (h:P.underlying t=some d) (v:TypeDesc):rdo P (underlying t) F v↔d=v:=by
 unfold underlying program
 simp only [ak]
 constructor
 ·rintro ⟨p,hp,h'⟩
  simp only [rdo] at hp
  subst hp
  rw [h] at h'
  exact h'
 ·rintro rfl
  exact ⟨P,rfl,by rw [h];rfl⟩
theorem bN {t:Nat} {d:TypeDesc} (h:P.underlying t=some d) (Q:TypeDesc->PH->Prop):aE P (underlying t) F Q↔Q d F:=by
 unfold underlying program
 simp only [aA,aE,h,aM]
theorem dh {t:Nat} {z:Value} (h:bk P t=some z) (Q:Value->PH->Prop):aE P (zeroValue t) F Q↔Q z F:=by
 obtain ⟨i,h1,h2⟩:=pv h
 unfold zeroValue typeInfo program
 simp only [aA,aE,h1,aM,h2]
theorem ga {t:Nat} {z:Value} (h:bk P t=some z) (v:Value):rdo P (zeroValue t) F v↔z=v:=by
 obtain ⟨i,h1,h2⟩:=pv h
 unfold zeroValue typeInfo program
 simp only [ak]
 constructor
 ·rintro ⟨i',⟨p,hp,h⟩,h'⟩
  simp only [rdo] at hp
  subst hp
  rw [h1] at h
  simp only [cg] at h
  subst h
  rw [h2] at h'
  exact h'
 ·rintro rfl
  exact ⟨i,⟨P,rfl,by rw [h1];rfl⟩,by rw [h2];rfl⟩
def RD (P:Program) (E:En) (F:PH) (o:Oper) (v:Value):Prop:=rdo P (execOp (ev E) o) F (.value v)
variable {n:Nat} {Q:Exit->En->PH->Prop} {E:En} {ops:Array Oper} {o:Oper} {l:List Oper}
theorem OG {v:Value} (h:RD P E F o v) (K:HL P n ops Q l (cO E o.dst v) F) (hw:Region.wanted o (yE ops E)=true:=by rfl) (hd:fk n o.dst=true:=by rfl):
  HL P n ops Q (o::l) E F:=JI hw hd (ks _ _ _ _ h K)
theorem OH {i:Nat} {oi:Oper} {v:Value} {fuel:Nat} {listed:Array Bool} {Sp:bW} (hi:ops[i]? =some oi)
  (hs:Region.noSelect ops=true) (hf:Region.free .any ops listed i=true) (hr:(Region.ready .any ops listed).contains i=true) (hd:fk n oi.dst=true)
  (hp:∀c E F,¬Q (.panic c) E F) (hw:Region.wanted oi (yE ops E)=true) (hy:RD P E F oi v) (hh:fJ Sp F)
  (h:RG P n ops Q fuel (listed.setIfInBounds i true) ((i,fun w=>∃e F,Sat e w F/\RD P E F oi v)::Sp) (cO E oi.dst v) F):RG P n ops Q (fuel+1) listed Sp E F:=
 zR hi hs hf hr hd hp hw (fun w ⟨e,F',st,h⟩=>nA _ _ _ _ h st) (fun e w st=>⟨e,F,st,hy⟩) hh h
theorem OI {i:Nat} {oi:Oper} {v:Value} {fuel:Nat} {listed:Array Bool} {Sp:bW} (hi:ops[i]? =some oi)
  (hs:Region.noSelect ops=true) (hf:Region.free .any ops listed i=true) (hr:(Region.ready .any ops listed).contains i=true) (hd:fk n oi.dst=true)
  (hp:∀c E F,¬Q (.panic c) E F) (hw:Region.wanted oi (yE ops E)=true) (hy:∀F,RD P E F oi v) (hh:fJ Sp F)
  (h:RG P n ops Q fuel (listed.setIfInBounds i true) Sp (cO E oi.dst v) F):RG P n ops Q (fuel+1) listed Sp E F:=
 HP hi hs hf hr hd hp hw (fun w _=>by
  have st:Sat ⟨w.os,w.tape,w.output,fun _=>none⟩ w (fun _=>none):=⟨rfl,rfl,rfl,fun b o h=>(by cases h),fun b o h=>(by cases h)⟩
  exact nA _ _ _ _ (hy _) st) hh h
theorem zS {v:Value} (h:RD P E F o v):xU F (fun w=>∃e F,Sat e w F/\RD P E F o v):=fun e _ st=>⟨e,F,st,h⟩
end
end Go.Proofs.YtenpmjhnhepfdaaGreatDoor
