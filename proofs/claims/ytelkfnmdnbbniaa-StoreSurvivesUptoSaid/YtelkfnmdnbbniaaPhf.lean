/-
  A program logic over partial heaps. Part 6: the steps of the walks, as they are used.
-/
import Derived.Orders
import Derived.Tactics
import Derived.RowKit3
import Derived.OrdersHeld
namespace Go.Proofs.Ytelkfnmdnbbniaa
open Go
abbrev PH := Nat → Option Obj
namespace PH
def set (F : PH) (b : Nat) (o : Obj) : PH := fun x => if x = b then some o else F x
def cell (F : PH) (a : Addr) : Option Value :=
 match F a.block with
 | some (.cells c _ _) => if a.spot.isSome then none else c[a.off]?
 | _ => none
def le (F G : PH) : Prop := ∀ b o, F b = some o → G b = some o
end PH
structure Ev where
 os : Os
 tape : Nat → Question → Nat
 output : Array (Nat × ByteArray)
 fr : PH
structure Sat (e : Ev) (w : World) (F : PH) : Prop where
 os : w.os = e.os
 tape : w.tape = e.tape
 output : w.output = e.output
 heap : ∀ b o, F b = some o → w.heap[b]? = some o
 frame : ∀ b o, e.fr b = some o → F b = none ∧ w.heap[b]? = some o
def storable (v : Value) : Prop := (∀ xs, v ≠ .agg xs) ∧ (∀ xs, v ≠ .tuple xs)
def frz (fr : Nat × Nat) (i : Nat) : Bool := fr.1 ≤ i && i < fr.2
def shapeOf : Obj → Option (TypeId × Nat)
 | .cells c e _ => some (e, c.size)
 | _ => none
def frzOf (o : Obj) (i : Nat) : Bool :=
 match o with
 | .cells _ _ fr => frz fr i
 | _ => false
def runs {α : Type} (P : Program) : Sem α → PH → (α → PH → Prop) → Prop
 | .pure a, F, Q => Q a F
 | .load _ a k, F, Q => ∃ v, F.cell a = some v ∧ runs P (k v) F Q
 | .store _ a v k, F, Q => storable v ∧ ∃ c e fr, F a.block = some (.cells c e fr) ∧ a.spot = none ∧ a.off < c.size ∧ frz fr a.off = false ∧
   runs P k (F.set a.block (.cells (c.setIfInBounds a.off v) e fr)) Q
 | .new o k, F, Q => ∀ b, F b = none → runs P (k b) (F.set b o) Q
 | .shape r k, F, Q => ∃ o, F r = some o ∧ runs P (k (shapeOf o)) F Q
 | .freeze a n k, F, Q => if n = 0 then runs P k F Q else ∃ c e fr, F a.block = some (.cells c e fr) ∧
   runs P k (F.set a.block (.cells c e (if fr.1 == fr.2 then (a.off, a.off + n) else (min fr.1 a.off, max fr.2 (a.off + n))))) Q
 | .frozen a k, F, Q => ∃ o, F a.block = some o ∧ runs P (k (frzOf o a.off)) F Q
 | .getObj r k, F, Q => ∃ o, F r = some o ∧ (∀ c e fr, o ≠ .cells c e fr) ∧ runs P (k o) F Q
 | .setObj r o k, F, Q => ∃ o', F r = some o' ∧ (∀ c e fr, o' ≠ .cells c e fr) ∧ runs P k (F.set r o) Q
 | .choose q k, F, Q => if q.forced then runs P (k 0) F Q else ∀ t, runs P (k (q.cut t)) F Q
 | .sys _ _, _, _ => False
 | .program k, F, Q => runs P (k P) F Q
 | .mark _ k, F, Q => runs P k F Q
 | .halt _, _, _ => False
section
variable {e : Ev} {w : World} {F : PH}
theorem Sat.cell (h : Sat e w F) {a : Addr} {v : Value} (hc : F.cell a = some v) : w.cell? a = some v := by
 unfold PH.cell at hc
 unfold World.cell?
 split at hc
 ·rename_i c t fr hb
  rw [h.heap _ _ hb]
  exact hc
 ·cases hc
theorem Sat.lt (h : Sat e w F) {b : Nat} {o : Obj} (hb : F b = some o) : b < w.heap.size := by
 have := h.heap _ _ hb
 exact (Array.getElem?_eq_some_iff.1 this).1
theorem Sat.fresh (h : Sat e w F) : F w.heap.size = none := by
 cases hb : F w.heap.size with
 | none => rfl
 | some o => exact absurd (h.lt hb) (by omega)
theorem Sat.push (h : Sat e w F) (o : Obj) : Sat e { w with heap := w.heap.push o } (F.set w.heap.size o) := by
 refine ⟨h.os, h.tape, h.output, fun b o' hb => ?_, fun b o' hb => ?_⟩
 ·unfold PH.set at hb
  split at hb
  ·rename_i hbs
   subst hbs
   simpa using hb
  ·rename_i hbs
   have h1 := h.heap _ _ hb
   have h2 := h.lt hb
   show (w.heap.push o)[b]? = some o'
   rw [Array.getElem?_push, if_neg (by omega)]
   exact h1
 ·obtain ⟨h1, h2⟩ := h.frame b o' hb
  have hlt := (Array.getElem?_eq_some_iff.1 h2).1
  refine ⟨?_, ?_⟩
  ·unfold PH.set
   rw [if_neg (by omega)]
   exact h1
  ·show (w.heap.push o)[b]? = some o'
   rw [Array.getElem?_push, if_neg (by omega)]
   exact h2
theorem Sat.modify (h : Sat e w F) {r : Nat} {o o0 : Obj} (hr : F r = some o0) (heap' : Array Obj) (h1 : heap'[r]? = some o) (h2 : ∀ b, b ≠ r → heap'[b]? = w.heap[b]?) :
  Sat e { w with heap := heap' } (F.set r o) := by
 refine ⟨h.os, h.tape, h.output, fun b o' hb => ?_, fun b o' hb => ?_⟩
 ·unfold PH.set at hb
  split at hb
  ·rename_i hbs
   subst hbs
   exact h1.trans hb
  ·rename_i hbs
   exact (h2 b hbs).trans (h.heap _ _ hb)
 ·obtain ⟨h3, h4⟩ := h.frame b o' hb
  have hb' : b ≠ r := fun e => by rw [e, hr] at h3; cases h3
  exact ⟨by unfold PH.set; rw [if_neg hb']; exact h3, (h2 b hb').trans h4⟩
theorem Sat.drawn (h : Sat e w F) (n : Nat) : Sat e { w with drawn := n } F := ⟨h.os, h.tape, h.output, h.heap, h.frame⟩
theorem runs_sound {α : Type} {P : Program} {e : Ev} (s : Sem α) : ∀ (F : PH) (w : World) (Q : α → PH → Prop), runs P s F Q → Sat e w F →
  ∃ a w' F', s.run P w = .ok a w' ∧ Sat e w' F' ∧ Q a F' := by
 induction s with
 | pure a => intro F w Q h hs; exact ⟨a, w, F, rfl, hs, h⟩
 | load m a k ih =>
  intro F w Q h hs
  obtain ⟨v, hc, h⟩ := h
  simp only [Sem.run, hs.cell hc]
  exact ih v F w Q h hs
 | store m a v k ih =>
  intro F w Q h hs
  obtain ⟨⟨h1, h2⟩, c, t, fr, hb, hsp, hlt, hfr, h⟩ := h
  have hheap := hs.heap _ _ hb
  have hcell : w.cell? a = some c[a.off] := by simp [World.cell?, hheap, hsp, hlt]
  have hfz : w.frozen? a = false := by
   obtain ⟨lo, hi⟩ := fr
   simpa [World.frozen?, hheap, frz] using hfr
  have hrun : (Sem.store m a v k).run P w = k.run P (w.setCell a v) := by
   cases v <;> first | exact absurd rfl (h1 _) | exact absurd rfl (h2 _) | simp [Sem.run, hcell, hfz]
  rw [hrun]
  refine ih _ _ Q h ?_
  have : w.setCell a v = { w with heap := (w.setCell a v).heap } := rfl
  rw [this]
  refine hs.modify hb _ ?_ (fun b hb' => ?_)
  ·simp [World.setCell, Array.getElem?_modify, hheap, hsp]
  ·simp only [World.setCell, Array.getElem?_modify]
   rw [if_neg (fun h => hb' h.symm)]
 | new o k ih =>
  intro F w Q h hs
  exact ih _ _ _ Q (h _ hs.fresh) (hs.push o)
 | shape r k ih =>
  intro F w Q h hs
  obtain ⟨o, hb, h⟩ := h
  have hheap := hs.heap _ _ hb
  have : w.shape? r = (shapeOf o) := by
   unfold World.shape?
   rw [hheap]
   cases o <;> simp [shapeOf]
  simp only [Sem.run, this]
  exact ih _ F w Q h hs
 | freeze a n k ih =>
  intro F w Q h hs
  simp only [Sem.run, World.freeze]
  unfold runs at h
  split at h
  ·rename_i hn
   rw [if_pos hn]
   exact ih F w Q h hs
  ·rename_i hn
   rw [if_neg hn]
   obtain ⟨c, t, fr, hb, h⟩ := h
   have hheap := hs.heap _ _ hb
   refine ih _ _ Q h (hs.modify hb _ ?_ (fun b hb' => ?_))
   ·simp [Array.getElem?_modify, hheap]
   ·rw [Array.getElem?_modify, if_neg (fun h => hb' h.symm)]
 | frozen a k ih =>
  intro F w Q h hs
  obtain ⟨o, hb, h⟩ := h
  have hheap := hs.heap _ _ hb
  have : w.frozen? a = (frzOf o a.off) := by
   unfold World.frozen?
   rw [hheap]
   cases o <;> simp [frzOf, frz]
  simp only [Sem.run, this]
  exact ih _ F w Q h hs
 | getObj r k ih =>
  intro F w Q h hs
  obtain ⟨o, hb, hn, h⟩ := h
  have hheap := hs.heap _ _ hb
  have : (Sem.getObj r k).run P w = (k o).run P w := by
   cases o <;> first | exact absurd rfl (hn _ _ _) | simp only [Sem.run, hheap]
  rw [this]
  exact ih _ F w Q h hs
 | setObj r o k ih =>
  intro F w Q h hs
  obtain ⟨o', hb, hn, h⟩ := h
  have hheap := hs.heap _ _ hb
  have hlt := hs.lt hb
  have : (Sem.setObj r o k).run P w = k.run P { w with heap := w.heap.setIfInBounds r o } := by
   cases o' <;> first | exact absurd rfl (hn _ _ _) | simp only [Sem.run, hheap]
  rw [this]
  refine ih _ _ Q h (hs.modify hb _ ?_ (fun b hb' => ?_))
  ·simp [hlt]
  ·rw [Array.getElem?_setIfInBounds_ne (fun h => hb' h.symm)]
 | choose q k ih =>
  intro F w Q h hs
  simp only [Sem.run]
  unfold runs at h
  split
  ·rename_i hf
   rw [if_pos hf] at h
   exact ih _ F w Q h hs
  ·rename_i hf
   rw [if_neg hf] at h
   exact ih _ F _ Q (h _) (hs.drawn _)
 | sys c k ih => intro F w Q h; exact h.elim
 | program k ih => intro F w Q h hs; exact ih _ F w Q h hs
 | mark m k ih => intro F w Q h hs; exact ih F w Q h hs
 | halt h => intro F w Q h; exact h.elim
end
theorem runs_bind {α β : Type} {P : Program} (s : Sem α) (f : α → Sem β) : ∀ (F : PH) (Q : β → PH → Prop),
  runs P (s.bind f) F Q ↔ runs P s F (fun a F' => runs P (f a) F' Q) := by
 induction s with
 | pure a => intro F Q; rfl
 | load m a k ih => intro F Q; simp only [Sem.bind, runs, ih]
 | store m a v k ih => intro F Q; simp only [Sem.bind, runs, ih]
 | new o k ih => intro F Q; simp only [Sem.bind, runs, ih]
 | shape r k ih => intro F Q; simp only [Sem.bind, runs, ih]
 | freeze a n k ih => intro F Q; simp only [Sem.bind, runs, ih]
 | frozen a k ih => intro F Q; simp only [Sem.bind, runs, ih]
 | getObj r k ih => intro F Q; simp only [Sem.bind, runs, ih]
 | setObj r o k ih => intro F Q; simp only [Sem.bind, runs, ih]
 | choose q k ih => intro F Q; simp only [Sem.bind, runs, ih]
 | sys c k ih => intro F Q; simp only [Sem.bind, runs]
 | program k ih => intro F Q; simp only [Sem.bind, runs, ih]
 | mark m k ih => intro F Q; simp only [Sem.bind, runs, ih]
 | halt h => intro F Q; simp only [Sem.bind, runs]
theorem runs_bind' {α β : Type} {P : Program} (s : Sem α) (f : α → Sem β) (F : PH) (Q : β → PH → Prop) :
  runs P (s >>= f) F Q ↔ runs P s F (fun a F' => runs P (f a) F' Q) := runs_bind s f F Q
theorem runs_mono {α : Type} {P : Program} (s : Sem α) : ∀ (F : PH) {Q Q' : α → PH → Prop}, runs P s F Q → (∀ a F, Q a F → Q' a F) → runs P s F Q' := by
 induction s with
 | pure a => intro F Q Q' h hq; exact hq _ _ h
 | load m a k ih => rintro F Q Q' ⟨v, h1, h⟩ hq; exact ⟨v, h1, ih v F h hq⟩
 | store m a v k ih => rintro F Q Q' ⟨h1, c, e, fr, h2, h3, h4, h5, h⟩ hq; exact ⟨h1, c, e, fr, h2, h3, h4, h5, ih _ h hq⟩
 | new o k ih => intro F Q Q' h hq b hb; exact ih _ _ (h b hb) hq
 | shape r k ih => rintro F Q Q' ⟨o, h1, h⟩ hq; exact ⟨o, h1, ih _ F h hq⟩
 | freeze a n k ih =>
  intro F Q Q' h hq
  unfold runs at h ⊢
  split at h
  ·rename_i hn; rw [if_pos hn]; exact ih F h hq
  ·rename_i hn; rw [if_neg hn]; obtain ⟨c, e, fr, h1, h⟩ := h; exact ⟨c, e, fr, h1, ih _ h hq⟩
 | frozen a k ih => rintro F Q Q' ⟨o, h1, h⟩ hq; exact ⟨o, h1, ih _ F h hq⟩
 | getObj r k ih => rintro F Q Q' ⟨o, h1, h2, h⟩ hq; exact ⟨o, h1, h2, ih _ F h hq⟩
 | setObj r o k ih => rintro F Q Q' ⟨o', h1, h2, h⟩ hq; exact ⟨o', h1, h2, ih _ h hq⟩
 | choose q k ih =>
  intro F Q Q' h hq
  unfold runs at h ⊢
  split at h
  ·rename_i hn; rw [if_pos hn]; exact ih _ F h hq
  ·rename_i hn; rw [if_neg hn]; exact fun t => ih _ F (h t) hq
 | sys c k ih => intro F Q Q' h; exact h.elim
 | program k ih => intro F Q Q' h hq; exact ih _ F h hq
 | mark m k ih => intro F Q Q' h hq; exact ih F h hq
 | halt h => intro F Q Q' h; exact h.elim
abbrev En := Nat → Value
def upd (E : En) (d : Nat) (v : Value) : En := fun t => bif Nat.beq t d then v else E t
def updO (E : En) : Option Tmp → Value → En
 | some d, v => upd E d v
 | none, _ => E
def ev (E : En) : Operand → Value
 | .tmp t => E t
 | .const v => v
 | .global g => .pointer (some ⟨g, 0, none⟩)
 | .func f => .func (.func f) #[] #[]
def enOf (args : List Value) : En := fun t => args.getD t undef
structure Ag (n : Nat) (a : Act) (E : En) : Prop where
 size : a.tmps.size = n
 defers : a.defers = []
 val : ∀ t, a.tmps.getD t undef = E t
theorem Ag.eval {n : Nat} {a : Act} {E : En} (h : Ag n a E) : a.eval = ev E := by
 funext x
 cases x with
 | tmp t => exact h.val t
 | _ => rfl
def dstOk (n : Nat) : Option Tmp → Bool
 | some d => Nat.blt d n
 | none => true
theorem beq_ne {i j : Nat} (h : ¬ i = j) : Nat.beq i j = false := by
 cases hb : Nat.beq i j with
 | false => rfl
 | true => exact absurd (Nat.eq_of_beq_eq_true hb) h
theorem Ag.put {n : Nat} {a : Act} {E : En} (h : Ag n a E) {d : Option Tmp} (v : Value) (hd : dstOk n d = true) : Ag n (a.put d v) (updO E d v) := by
 cases d with
 | none => exact h
 | some d =>
  have hlt : d < n := by simpa [dstOk, Nat.blt_eq] using hd
  refine ⟨by simp [Act.put, h.size], h.defers, fun t => ?_⟩
  simp only [Act.put, updO, upd]
  have hv := h.val t
  by_cases ht : t = d
  ·subst ht
   simp [Array.getD_eq_getD_getElem?, h.size, hlt]
  ·have : Nat.beq t d = false := beq_ne ht
   simp only [this, cond_false]
   rw [← hv]
   simp [Array.getD_eq_getD_getElem?, Array.getElem?_setIfInBounds_ne (Ne.symm ht)]
def QL (e : Ev) (n : Nat) (Q : Exit → En → PH → Prop) : Exit → Act → World → Prop := fun x a w => ∃ E F, Ag n a E ∧ Sat e w F ∧ Q x E F
def Spec (P : Program) (f : FuncId) (args : Array Value) (F : PH) (R : Value → PH → Prop) : Prop :=
 ∀ e w, Sat e w F → Calls P f args w fun en w' => ∃ v F', en = .returned v ∧ Sat e w' F' ∧ R v F'
def PH.and (F H : PH) : PH := fun b => match F b with | some o => some o | none => H b
theorem PH.and_left {F H : PH} {b : Nat} {o : Obj} (h : F b = some o) : (F.and H) b = some o := by simp [PH.and, h]
theorem PH.and_right {F H : PH} {b : Nat} (h : F b = none) : (F.and H) b = H b := by simp [PH.and, h]
theorem Spec.beside {P : Program} {f : FuncId} {args : Array Value} {F H : PH} {R : Value → PH → Prop} (h : Spec P f args F R) (hd : ∀ b o, H b = some o → F b = none) :
  Spec P f args (F.and H) fun v F' => ∃ G, R v G ∧ F' = G.and H ∧ ∀ b o, H b = some o → G b = none := by
 intro e w hs
 have hand : ∀ {F : PH} {b : Nat}, (F.and H) b = none → F b = none ∧ H b = none := fun {F b} hb => by
  unfold PH.and at hb
  split at hb
  ·cases hb
  ·rename_i hf
   exact ⟨hf, hb⟩
 refine (h ⟨e.os, e.tape, e.output, e.fr.and H⟩ w ⟨hs.os, hs.tape, hs.output, fun b o hb => hs.heap b o (PH.and_left hb), fun b o hb => ?_⟩).mono ?_
 ·simp only [PH.and] at hb
  split at hb
  ·rename_i o' ho'
   cases hb
   obtain ⟨h1, h2⟩ := hs.frame b _ ho'
   exact ⟨(hand h1).1, h2⟩
  ·have hn := hd b o hb
   exact ⟨hn, hs.heap b o ((PH.and_right hn).trans hb)⟩
 ·rintro en w' ⟨v, G, rfl, hg, hr⟩
  have hdis : ∀ b o, H b = some o → G b = none := fun b o hb => by
   have hx : ∃ o', (e.fr.and H) b = some o' := by
    cases hf : e.fr b with
    | none => exact ⟨o, (PH.and_right hf).trans hb⟩
    | some o' => exact ⟨o', PH.and_left hf⟩
   obtain ⟨o', ho'⟩ := hx
   exact (hg.frame b o' ho').1
  refine ⟨v, _, rfl, ⟨hg.os, hg.tape, hg.output, fun b o hb => ?_, fun b o hb => ?_⟩, G, hr, rfl, hdis⟩
  ·cases hG : G b with
   | some o' =>
    rw [PH.and_left hG] at hb
    cases hb
    exact hg.heap b _ hG
   | none =>
    rw [PH.and_right hG] at hb
    have hfr : e.fr b = none := by
     cases hf : e.fr b with
     | none => rfl
     | some o' =>
      have := (hand (hs.frame b o' hf).1).2
      rw [hb] at this; cases this
    exact (hg.frame b o ((PH.and_right hfr).trans hb)).2
  ·obtain ⟨h1, _⟩ := hs.frame b o hb
   have h3 := (hand h1).2
   obtain ⟨h4, h5⟩ := hg.frame b o (PH.and_left hb)
   exact ⟨by rw [PH.and_right h4]; exact h3, h5⟩
theorem Spec.mono {P : Program} {f : FuncId} {args : Array Value} {F : PH} {R R' : Value → PH → Prop} (h : Spec P f args F R) (hr : ∀ v F', R v F' → R' v F') :
  Spec P f args F R' := fun e w hs => (h e w hs).mono fun _ _ ⟨v, F', h1, h2, h3⟩ => ⟨v, F', h1, h2, hr v F' h3⟩
def HC (P : Program) (n : Nat) (c : Code) (Q : Exit → En → PH → Prop) (E : En) (F : PH) : Prop :=
 ∀ e a w, Ag n a E → Sat e w F → c.wp P (QL e n Q) a w
def HL (P : Program) (n : Nat) (ops : Array Oper) (Q : Exit → En → PH → Prop) (l : List Oper) (E : En) (F : PH) : Prop :=
 ∀ e a w, Ag n a E → Sat e w F → wpList P ops (QL e n Q) l a w
abbrev thenQ (K : En → PH → Prop) (Q : Exit → En → PH → Prop) : Exit → En → PH → Prop
 | .normal, E, F => K E F
 | x, E, F => Q x E F
abbrev blockQ (id : Nat) (Q : Exit → En → PH → Prop) : Exit → En → PH → Prop
 | .exit i, E, F => bif Nat.beq i id then Q .normal E F else Q (.exit i) E F
 | x, E, F => Q x E F
section
variable {P : Program} {n : Nat} {Q : Exit → En → PH → Prop} {E : En} {F : PH}
theorem HC_skip (h : Q .normal E F) : HC P n .skip Q E F := fun _ _ _ ag st => wp_skip ⟨E, F, ag, st, h⟩
theorem HC_ret (h : Q .ret E F) : HC P n .ret Q E F := fun _ _ _ ag st => wp_ret ⟨E, F, ag, st, h⟩
theorem HC_exit {id : Nat} (h : Q (.exit id) E F) : HC P n (.exit id) Q E F := fun _ _ _ ag st => wp_exit ⟨E, F, ag, st, h⟩
theorem HC_seq {x y : Code} (h : HC P n x (thenQ (HC P n y Q) Q) E F) : HC P n (.seq x y) Q E F := fun e a w ag st =>
 wp_seq (wp_mono (h e a w ag st) fun ex a' w' ⟨E', F', ag', st', q⟩ => by
  cases ex with
  | normal => exact q e a' w' ag' st'
  | _ => exact ⟨E', F', ag', st', q⟩)
theorem HC_cond {c : Operand} {x y : Code} {t : Bool} (hc : ev E c = .bool t) (h1 : t = true → HC P n x Q E F) (h2 : t = false → HC P n y Q E F) :
  HC P n (.cond c x y) Q E F := fun e a w ag st =>
 wp_cond_split (by rw [ag.eval]; exact hc) (fun ht => h1 ht e a w ag st) (fun ht => h2 ht e a w ag st)
theorem HC_block {id : Nat} {c : Code} (h : HC P n c (blockQ id Q) E F) : HC P n (.block id c) Q E F := fun e a w ag st =>
 wp_block (wp_mono (h e a w ag st) fun ex a' w' ⟨E', F', ag', st', q⟩ => by
  cases ex with
  | exit i =>
   simp only [Exit.inBlock, blockQ] at q ⊢
   by_cases hi : i = id
   ·subst hi
    have : Nat.beq i i = true := by simp
    simp only [this, cond_true] at q
    rw [if_pos rfl]
    exact ⟨E', F', ag', st', q⟩
   ·have : Nat.beq i id = false := beq_ne hi
    simp only [this, cond_false] at q
    rw [if_neg hi]
    exact ⟨E', F', ag', st', q⟩
  | _ => exact ⟨E', F', ag', st', q⟩)
theorem HC_loop {c : Code} (I : Nat → En → PH → Prop) (m0 : Nat) (h0 : I m0 E F)
  (round : ∀ m E F, I m E F → HC P n c (thenQ (fun E' F' => ∃ m', m' < m ∧ I m' E' F') Q) E F) : HC P n (.loop c) Q E F := by
 intro e a w ag st b k cs
 have key : ∀ m a w E F, Ag n a E → Sat e w F → I m E F →
   ∃ ex a' w', QL e n Q ex a' w' ∧ Arrives P (lone (b.at a (.code c :: .inLoop c :: k)) cs w) b k cs ex a' w' := by
  intro m
  induction m using Nat.strongRecOn with
  | _ m ih =>
   intro a w E F ag st hI
   obtain ⟨ex, a₁, w₁, hq, harr⟩ := round m E F hI e a w ag st b (.inLoop c :: k) cs
   cases ex with
   | normal =>
    obtain ⟨E', F', ag', st', m', hlt, hI'⟩ := hq
    obtain ⟨e₂, a₂, w₂, hq₂, harr₂⟩ := ih m' hlt a₁ w₁ E' F' ag' st' hI'
    exact ⟨e₂, a₂, w₂, hq₂, .of_steps (Steps.trans harr (.one step_inLoop)) harr₂⟩
   | exit id => exact ⟨_, a₁, w₁, hq, .pass (x := .inLoop c) rfl (fun _ _ => .inl (by simp)) harr⟩
   | goto l => exact ⟨_, a₁, w₁, hq, .pass (x := .inLoop c) rfl (fun _ _ => .inl (by simp)) harr⟩
   | ret => exact ⟨_, a₁, w₁, hq, .pass (x := .inLoop c) rfl (fun _ _ => .inl (by simp)) harr⟩
   | panic ch => exact ⟨_, a₁, w₁, hq, .pass (x := .inLoop c) rfl (fun _ _ => .inl (by simp)) harr⟩
   | outgrown => exact ⟨_, a₁, w₁, hq, .pass (x := .inLoop c) rfl (fun _ _ => .inl (by simp)) harr⟩
 obtain ⟨ex, a', w', hq, harr⟩ := key m0 a w E F ag st h0
 exact ⟨ex, a', w', hq, .of_steps (.one step_loop) harr⟩
theorem HC_region {id : Nat} {l : List Oper} (h : HL P n l.toArray Q l E F) : HC P n (.region id l.toArray false) Q E F := fun e a w ag st =>
 wp_region_lit (h e a w ag st)
def stepK (P : Program) (K : En → PH → Prop) (o : Oper) (E : En) : Next → PH → Prop
 | .value v, F => K (updO E o.dst v) F
 | .skip, F => K (updO E o.dst undef) F
 | .enter f args, F => Spec P f args F fun v F' => K (updO E o.dst v) F'
 | _, _ => False
theorem op_wp {o : Oper} {e : Ev} {a : Act} {w : World} {K : En → PH → Prop} {K' : Act → World → Prop} {Q' : Exit → Act → World → Prop} (ag : Ag n a E) (st : Sat e w F) (hd : dstOk n o.dst = true)
  (hk : ∀ a w E F, Ag n a E → Sat e w F → K E F → K' a w)
  (h : runs P (execOp (ev E) o) F (stepK P K o E)) : o.wp P a w K' Q' := by
 obtain ⟨nx, w', F', hr, st', hq⟩ := runs_sound _ F w _ h st
 unfold Oper.wp
 rw [ag.eval, hr]
 cases nx with
 | value v => exact hk _ _ _ _ (ag.put v hd) st' hq
 | skip => exact hk _ _ _ _ (ag.put undef hd) st' hq
 | enter f args =>
  refine (hq e w' st').mono ?_
  rintro _ w'' ⟨v, F'', rfl, st'', hK⟩
  exact hk _ _ _ _ (ag.put v hd) st'' hK
 | _ => exact hq.elim
def yE (ops : Array Oper) (E : En) (j : Nat) : Option Bool :=
 match (ops[j]?).bind (·.dst) with
 | some t => (match E t with | .bool b => some b | _ => none)
 | none => none
theorem Ag.yE_eq {a : Act} (h : Ag n a E) (ops : Array Oper) (j : Nat) : yielded ops a.tmps j = yE ops E j := by
 unfold yielded yE
 cases (ops[j]?).bind (·.dst) with
 | none => rfl
 | some t =>
  have hv := h.val t
  simp only [Option.bind_some]
  rw [← hv, Array.getD_eq_getD_getElem?]
  cases a.tmps[t]? with
  | none => rfl
  | some v => cases v <;> rfl
theorem Ag.wanted_eq {a : Act} (h : Ag n a E) (ops : Array Oper) (o : Oper) : Region.wanted o (yielded ops a.tmps) = Region.wanted o (yE ops E) := by
 unfold Region.wanted
 cases o.guard with
 | none => rfl
 | some g => simp only [h.yE_eq]
theorem HL_nil {ops : Array Oper} (h : Q .normal E F) : HL P n ops Q [] E F := fun _ _ _ ag st => wpList_nil ⟨E, F, ag, st, h⟩
theorem HL_op {ops : Array Oper} {o : Oper} {l : List Oper} (hw : Region.wanted o (yE ops E) = true) (hd : dstOk n o.dst = true)
  (h : runs P (execOp (ev E) o) F (stepK P (HL P n ops Q l) o E)) : HL P n ops Q (o :: l) E F := fun e a w ag st => by
 unfold wpList
 rw [ag.wanted_eq, if_pos hw]
 exact .inl (op_wp ag st hd (fun a w E F ag st hk => hk e a w ag st) h)
theorem HL_skip {ops : Array Oper} {o : Oper} {l : List Oper} (hw : Region.wanted o (yE ops E) = false) (hd : dstOk n o.dst = true)
  (h : HL P n ops Q l (updO E o.dst undef) F) : HL P n ops Q (o :: l) E F := fun e a w ag st => by
 unfold wpList
 rw [ag.wanted_eq, if_neg (by simp [hw])]
 exact h e _ _ (ag.put undef hd) st
def resOk (P : Program) (fn : Func) (E : En) (F : PH) (v : Value) : Prop :=
 ∀ e w tmps, Sat e w F → (∀ t : Nat, Array.getD tmps t undef = E t) → (results fn tmps).run P w = .ok v w
abbrev endQ (P : Program) (fn : Func) (R : Value → PH → Prop) : Exit → En → PH → Prop
 | .normal, E, F | .ret, E, F => ∃ v, resOk P fn E F v ∧ R v F
 | _, _, _ => False
theorem spec_of {f : FuncId} {fn : Func} {c : Code} {args : List Value} {R : Value → PH → Prop} (hf : P.funcs[f]? = some fn) (hb : fn.body = some c)
  (hn : fn.ntmps = n) (hs : Nat.ble args.length n = true) (h : HC P n c (endQ P fn R) (enOf args) F) : Spec P f args.toArray F R := fun e w st => by
 have hs' : args.length ≤ n := by simpa [Nat.ble_eq] using hs
 refine calls_of_wp hf hb ?_
 refine wp_mono (h e _ w ⟨?_, rfl, fun t => ?_⟩ st) ?_
 ·simp [hn]; omega
 ·simp only [enOf, Array.getD_eq_getD_getElem?, List.getD_eq_getElem?_getD, Array.getElem?_append, List.size_toArray, Array.getElem?_replicate]
  by_cases ht : t < args.length
  ·simp [ht]
  ·simp only [ht, if_false]
   rw [List.getElem?_eq_none (by omega)]
   split <;> rfl
 ·rintro ex a' w' ⟨E', F', ag', st', q⟩
  cases ex with
  | normal => obtain ⟨v, hr, hR⟩ := q; exact ⟨ag'.defers, v, hr e w' _ st' ag'.val, v, F', rfl, st', hR⟩
  | ret => obtain ⟨v, hr, hR⟩ := q; exact ⟨ag'.defers, v, hr e w' _ st' ag'.val, v, F', rfl, st', hR⟩
  | _ => exact q.elim
end
section
variable {P : Program} {ops : Array Oper} {md : Region.Mode}
def Oper.waits (md : Region.Mode) (o : Oper) (r : Nat) : Bool := o.after.toList.any fun e => Region.binds md e && e.on == r
theorem waits_spec {o : Oper} {r : Nat} : Oper.waits md o r = false ↔ ∀ e ∈ o.after, Region.binds md e = true → e.on ≠ r := by
 unfold Oper.waits
 rw [← Bool.not_eq_true, List.any_eq_true]
 constructor
 ·intro h x hx hb heq
  exact h ⟨x, by simpa using hx, by simp [hb, heq]⟩
 ·rintro h ⟨x, hx, hp⟩
  simp only [Bool.and_eq_true, beq_iff_eq] at hp
  exact h x (by simpa using hx) hp.1 hp.2
abbrev Pend := List (Nat × (World → Prop))
def Pend.hold (Sp : Pend) (w : World) : Prop := ∀ r ∈ Sp, r.2 w
def Pend.rest (md : Region.Mode) (o : Oper) (Sp : Pend) : Pend := Sp.filter fun r => !Oper.waits md o r.1
def wpAnyP (P : Program) (md : Region.Mode) (ops : Array Oper) (Q : Exit → Act → World → Prop) : Nat → Array Bool → Pend → Act → World → Prop
 | 0, listed, _, a, w => Region.ready md ops listed = [] ∧ Q .normal a w
 | fuel + 1, listed, Sp, a, w =>
  (Region.ready md ops listed = [] → Q .normal a w) ∧
  ∀ i ∈ Region.ready md ops listed, ∀ o, ops[i]? = some o →
   wpOp P ops Q i (fun a' w' => (Sp.rest md o).hold w' ∧ wpAnyP P md ops Q fuel (listed.setIfInBounds i true) (Sp.rest md o) a' w') a w
variable {Q : Exit → Act → World → Prop}
theorem wpAny_of_P : ∀ (fuel : Nat) (listed : Array Bool) (Sp : Pend) (a : Act) (w : World), wpAnyP P md ops Q fuel listed Sp a w → wpAny P md ops Q fuel listed a w
 | 0, _, _, _, _, h => h
 | fuel + 1, _, _, _, _, h => ⟨h.1, fun i hi => by
   obtain ⟨_, o, ho, _⟩ := mem_ready.1 hi
   exact wpOp_mono (fun a' w' h' => wpAny_of_P fuel _ _ a' w' h'.2) (h.2 i hi o ho)⟩
theorem Pend.rest_sub {o : Oper} {Sp Sp' : Pend} (h : ∀ r ∈ Sp', r ∈ Sp) : ∀ r ∈ Pend.rest md o Sp', r ∈ Pend.rest md o Sp := by
 intro r hr
 unfold Pend.rest at *
 rw [List.mem_filter] at *
 exact ⟨h r hr.1, hr.2⟩
theorem wpAnyP_sub : ∀ (fuel : Nat) (listed : Array Bool) (Sp Sp' : Pend) (a : Act) (w : World), (∀ r ∈ Sp', r ∈ Sp) → wpAnyP P md ops Q fuel listed Sp a w →
  wpAnyP P md ops Q fuel listed Sp' a w
 | 0, _, _, _, _, _, _, h => h
 | fuel + 1, _, _, _, _, _, hs, h => ⟨h.1, fun i hi o ho => wpOp_mono (fun a' w' h' => ⟨fun r hr => h'.1 r (Pend.rest_sub hs r hr), wpAnyP_sub fuel _ _ _ a' w' (Pend.rest_sub hs) h'.2⟩) (h.2 i hi o ho)⟩
theorem wpAnyP_first {S : World → Prop} {i : Nat} {oi : Oper} {v : Value} (hi : ops[i]? = some oi) (hsel : ∀ (j : Nat) (o : Oper) cs b, ops[j]? = some o → o.op ≠ .select cs b)
  (hQ : ∀ c a w, Q (.panic c) (a.put oi.dst v) w → Q (.panic c) a w) :
  ∀ (fuel : Nat) (listed : Array Bool) (Sp : Pend) (a : Act) (w : World),
   (∀ j oj, ops[j]? = some oj → j ≠ i → listed.getD j true = false → (∀ e ∈ oj.after, Region.binds md e = true → e.on ≠ i) → oi.apart ops oj = true) →
   i ∈ Region.ready md ops listed → YieldsIf P ops S oi v a → S w → Sp.hold w →
   wpAnyP P md ops Q fuel (listed.setIfInBounds i true) ((i, S) :: Sp) (a.put oi.dst v) w → wpAnyP P md ops Q (fuel + 1) listed Sp a w := by
 intro fuel
 induction fuel with
 | zero =>
  intro listed Sp a w _ hr hy hS hh H
  refine ⟨fun h => (by rw [h] at hr; cases hr), fun j hj oj hoj => ?_⟩
  by_cases hji : j = i
  ·subst hji
   exact hy.wpOp hi hS ⟨fun r hr' => hh r (List.mem_filter.1 hr').1, H⟩
  ·have := ready_mono hj hji
   rw [H.1] at this
   cases this
 | succ fuel ih =>
  intro listed Sp a w hfree hr hy hS hh H
  refine ⟨fun h => (by rw [h] at hr; cases hr), fun j hj oj hoj => ?_⟩
  by_cases hji : j = i
  ·subst hji
   refine hy.wpOp hi hS ⟨fun r hr' => hh r (List.mem_filter.1 hr').1, ?_⟩
   exact wpAnyP_sub (fuel + 1) _ _ _ _ _ (fun r hr' => List.mem_cons_of_mem _ (List.mem_filter.1 hr').1) H
  ·have h1 := H.2 j (ready_mono hj hji) oj hoj
   obtain ⟨hjun, oj', hoj', hall⟩ := mem_ready.1 hj
   obtain rfl : oj' = oj := by rw [hoj] at hoj'; exact (Option.some.inj hoj').symm
   have hnot : ∀ e ∈ oj'.after, Region.binds md e = true → e.on ≠ i := fun e he hb heq => by
    have h1 := hall e he hb
    have h0 := (mem_ready.1 hr).1
    rw [heq] at h1
    rcases Nat.lt_or_ge i listed.size with h' | h'
    ·simp [h'] at h0 h1; rw [h0] at h1; cases h1
    ·simp [Array.getElem?_eq_none h'] at h1
   have hw : Oper.waits md oj' i = false := waits_spec.2 hnot
   have hrest : Pend.rest md oj' ((i, S) :: Sp) = (i, S) :: Pend.rest md oj' Sp := by
    unfold Pend.rest
    rw [List.filter_cons_of_pos (by simp [hw])]
   rw [hrest] at h1
   have h2 := wpOp_putIf hoj (hfree j oj' hoj hji hjun hnot) (fun cs b => hsel i oi cs b hi) (fun cs b => hsel j oj' cs b hoj) hQ hy h1
   have hfree' : ∀ k ok, ops[k]? = some ok → k ≠ i → (listed.setIfInBounds j true).getD k true = false →
     (∀ e ∈ ok.after, Region.binds md e = true → e.on ≠ i) → oi.apart ops ok = true := fun k ok hk hki hun hno => by
    refine hfree k ok hk hki ?_ hno
    by_cases hjk : j = k
    ·subst hjk; exact hjun
    ·rw [getD_set_ne true hjk] at hun; exact hun
   refine wpOp_mono (fun a' w' h3 => ?_) h2
   obtain ⟨hy', hhold, h3⟩ := h3
   refine ⟨fun r hr' => hhold r (List.mem_cons_of_mem _ hr'), ?_⟩
   refine ih (listed.setIfInBounds j true) _ a' w' hfree' (ready_mono hr (Ne.symm hji)) hy' (hhold _ (List.mem_cons_self ..)) (fun r hr' => hhold r (List.mem_cons_of_mem _ hr')) ?_
   rw [Array.setIfInBounds_comm _ _ hji]
   exact h3
end
section
variable {P : Program} {n : Nat} {Q : Exit → En → PH → Prop} {E : En} {F : PH} {ops : Array Oper}
def allW (F : PH) (S : World → Prop) : Prop := ∀ e w, Sat e w F → S w
def holdF (Sp : Pend) (F : PH) : Prop := ∀ r ∈ Sp, allW F r.2
def RG (P : Program) (n : Nat) (ops : Array Oper) (Q : Exit → En → PH → Prop) (fuel : Nat) (listed : Array Bool) (Sp : Pend) (E : En) (F : PH) : Prop :=
 ∀ e a w, Ag n a E → Sat e w F → wpAnyP P .any ops (QL e n Q) fuel listed Sp a w
theorem HC_draw {id : Nat} (hm : P.follows .mixedOrders = true) (h : RG P n ops Q ops.size (Array.replicate ops.size false) [] E F) :
  HC P n (.region id ops true) Q E F := fun e a w ag st =>
 wp_region_any hm (wpAny_of_P _ _ _ _ _ (h e a _ ag (st.drawn _)))
theorem RG_done {fuel : Nat} {listed : Array Bool} {Sp : Pend} (hr : Region.ready .any ops listed = []) (h : Q .normal E F) : RG P n ops Q fuel listed Sp E F :=
 fun e a w ag st => by
  cases fuel with
  | zero => exact ⟨hr, E, F, ag, st, h⟩
  | succ fuel => exact ⟨fun _ => ⟨E, F, ag, st, h⟩, by rw [hr]; simp⟩
def Takes (P : Program) (S : World → Prop) (E : En) (o : Oper) (v : Value) : Prop := ∀ w, S w → (execOp (ev E) o).run P w = .ok (.value v) w
theorem RG_read {S : World → Prop} {i : Nat} {oi : Oper} {v : Value} {fuel : Nat} {listed : Array Bool} {Sp : Pend} (hi : ops[i]? = some oi)
  (hs : Region.noSelect ops = true) (hf : Region.free .any ops listed i = true) (hr : (Region.ready .any ops listed).contains i = true) (hd : dstOk n oi.dst = true)
  (hp : ∀ c E F, ¬ Q (.panic c) E F) (hw : Region.wanted oi (yE ops E) = true) (hy : Takes P S E oi v) (hS : allW F S) (hh : holdF Sp F)
  (h : RG P n ops Q fuel (listed.setIfInBounds i true) ((i, S) :: Sp) (updO E oi.dst v) F) : RG P n ops Q (fuel + 1) listed Sp E F := fun e a w ag st =>
 wpAnyP_first hi (Region.noSelect_spec hs) (fun c a w ⟨E, F, _, _, q⟩ => (hp c E F q).elim) fuel listed Sp a w (Region.free_spec hi hf) (by simpa using hr)
  (.inl ⟨by rw [ag.wanted_eq]; exact hw, fun w hw' => by rw [ag.eval]; exact hy w hw'⟩) (hS e w st) (fun r hr => hh r hr e w st) (h e _ w (ag.put v hd) st)
theorem wpAnyP_true {Q : Exit → Act → World → Prop} {md : Region.Mode} (i : Nat) : ∀ (fuel : Nat) (listed : Array Bool) (Sp : Pend) (a : Act) (w : World), wpAnyP P md ops Q fuel listed Sp a w →
  wpAnyP P md ops Q fuel listed ((i, fun _ => True) :: Sp) a w
 | 0, _, _, _, _, h => h
 | fuel + 1, _, Sp, _, _, h => ⟨h.1, fun j hj o ho => wpOp_mono (fun a' w' h' => by
   by_cases hw : Oper.waits md o i = true
   ·have : Pend.rest md o ((i, fun _ => True) :: Sp) = Pend.rest md o Sp := by
     unfold Pend.rest; rw [List.filter_cons_of_neg (by simp [hw])]
    rw [this]
    exact h'
   ·have : Pend.rest md o ((i, fun _ => True) :: Sp) = (i, fun _ => True) :: Pend.rest md o Sp := by
     unfold Pend.rest; rw [List.filter_cons_of_pos (by simpa using hw)]
    rw [this]
    refine ⟨fun r hr => ?_, wpAnyP_true i fuel _ _ a' w' h'.2⟩
    rcases List.mem_cons.1 hr with rfl | hr
    ·trivial
    ·exact h'.1 r hr) (h.2 j hj o ho)⟩
theorem RG_pure {i : Nat} {oi : Oper} {v : Value} {fuel : Nat} {listed : Array Bool} {Sp : Pend} (hi : ops[i]? = some oi)
  (hs : Region.noSelect ops = true) (hf : Region.free .any ops listed i = true) (hr : (Region.ready .any ops listed).contains i = true) (hd : dstOk n oi.dst = true)
  (hp : ∀ c E F, ¬ Q (.panic c) E F) (hw : Region.wanted oi (yE ops E) = true) (hy : Takes P (fun _ => True) E oi v) (hh : holdF Sp F)
  (h : RG P n ops Q fuel (listed.setIfInBounds i true) Sp (updO E oi.dst v) F) : RG P n ops Q (fuel + 1) listed Sp E F :=
 RG_read (S := fun _ => True) hi hs hf hr hd hp hw hy (fun _ _ _ => trivial) hh fun e a w ag st => wpAnyP_true i _ _ _ _ _ (h e a w ag st)
theorem RG_skip {i : Nat} {oi : Oper} {fuel : Nat} {listed : Array Bool} {Sp : Pend} (hi : ops[i]? = some oi)
  (hs : Region.noSelect ops = true) (hf : Region.free .any ops listed i = true) (hr : (Region.ready .any ops listed).contains i = true) (hd : dstOk n oi.dst = true)
  (hp : ∀ c E F, ¬ Q (.panic c) E F) (hw : Region.wanted oi (yE ops E) = false) (hh : holdF Sp F)
  (h : RG P n ops Q fuel (listed.setIfInBounds i true) Sp (updO E oi.dst undef) F) : RG P n ops Q (fuel + 1) listed Sp E F := fun e a w ag st =>
 wpAnyP_first (S := fun _ => True) hi (Region.noSelect_spec hs) (fun c a w ⟨E, F, _, _, q⟩ => (hp c E F q).elim) fuel listed Sp a w (Region.free_spec hi hf) (by simpa using hr)
  (.inr ⟨by rw [ag.wanted_eq]; exact hw, rfl⟩) trivial (fun r hr => hh r hr e w st) (wpAnyP_true i _ _ _ _ _ (h e _ w (ag.put undef hd) st))
def RGop (P : Program) (n : Nat) (ops : Array Oper) (Q : Exit → En → PH → Prop) (fuel : Nat) (listed : Array Bool) (Sp : Pend) (E : En) (F : PH) (i : Nat) : Prop :=
 ∃ o, ops[i]? = some o ∧ dstOk n o.dst = true ∧ Region.wanted o (yE ops E) = true ∧
  runs P (execOp (ev E) o) F (stepK P (fun E' F' => holdF (Sp.rest .any o) F' ∧ RG P n ops Q fuel (listed.setIfInBounds i true) (Sp.rest .any o) E' F') o E)
theorem RG_eff {fuel : Nat} {listed : Array Bool} {Sp : Pend} {rs : List Nat} (hr : Region.ready .any ops listed = rs) (hne : rs.isEmpty = false)
  (h : ∀ i ∈ rs, RGop P n ops Q fuel listed Sp E F i) : RG P n ops Q (fuel + 1) listed Sp E F := fun e a w ag st => by
 subst hr
 refine ⟨fun h0 => (by rw [h0] at hne; cases hne), fun i hi o ho => ?_⟩
 obtain ⟨o', ho', hd, hw, hrun⟩ := h i hi
 obtain rfl : o' = o := by rw [ho] at ho'; exact (Option.some.inj ho').symm
 unfold wpOp
 simp only [ho]
 rw [ag.wanted_eq, if_pos hw]
 exact .inl (op_wp ag st hd (fun a w E F ag st hk => ⟨fun r hr => hk.1 r hr e w st, hk.2 e a w ag st⟩) hrun)
theorem RG_eff1 {fuel : Nat} {listed : Array Bool} {Sp : Pend} {i : Nat} (hr : Region.ready .any ops listed = [i]) (h : RGop P n ops Q fuel listed Sp E F i) :
  RG P n ops Q (fuel + 1) listed Sp E F := RG_eff hr rfl fun j hj => by
 rw [List.mem_singleton] at hj
 subst hj
 exact h
end
def rdo {α : Type} (P : Program) : Sem α → PH → α → Prop
 | .pure a, _, v => a = v
 | .load _ a k, F, v => ∃ x, F.cell a = some x ∧ rdo P (k x) F v
 | .shape r k, F, v => ∃ o, F r = some o ∧ rdo P (k (shapeOf o)) F v
 | .frozen a k, F, v => ∃ o, F a.block = some o ∧ rdo P (k (frzOf o a.off)) F v
 | .getObj r k, F, v => ∃ o, F r = some o ∧ (∀ c e fr, o ≠ .cells c e fr) ∧ rdo P (k o) F v
 | .program k, F, v => rdo P (k P) F v
 | .mark _ k, F, v => rdo P k F v
 | _, _, _ => False
theorem rdo_run {α : Type} {P : Program} {e : Ev} (s : Sem α) : ∀ (F : PH) (w : World) (v : α), rdo P s F v → Sat e w F → s.run P w = .ok v w := by
 induction s with
 | pure a => intro F w v h _; exact congrArg (fun x => Result.ok x w) h
 | load m a k ih =>
  rintro F w v ⟨x, hc, h⟩ hs
  simp only [Sem.run, hs.cell hc]
  exact ih x F w v h hs
 | shape r k ih =>
  rintro F w v ⟨o, hb, h⟩ hs
  have hheap := hs.heap _ _ hb
  have : w.shape? r = shapeOf o := by
   unfold World.shape?
   rw [hheap]
   cases o <;> simp [shapeOf]
  simp only [Sem.run, this]
  exact ih _ F w v h hs
 | frozen a k ih =>
  rintro F w v ⟨o, hb, h⟩ hs
  have hheap := hs.heap _ _ hb
  have : w.frozen? a = frzOf o a.off := by
   unfold World.frozen?
   rw [hheap]
   cases o <;> simp [frzOf, frz]
  simp only [Sem.run, this]
  exact ih _ F w v h hs
 | getObj r k ih =>
  rintro F w v ⟨o, hb, hn, h⟩ hs
  have hheap := hs.heap _ _ hb
  have : (Sem.getObj r k).run P w = (k o).run P w := by
   cases o <;> first | exact absurd rfl (hn _ _ _) | simp only [Sem.run, hheap]
  rw [this]
  exact ih _ F w v h hs
 | program k ih => intro F w v h hs; exact ih _ F w v h hs
 | mark m k ih => intro F w v h hs; exact ih F w v h hs
 | _ => intro F w v h; exact h.elim
theorem rdo_runs {α : Type} {P : Program} (s : Sem α) : ∀ (F : PH) (v : α) (Q : α → PH → Prop), rdo P s F v → Q v F → runs P s F Q := by
 induction s with
 | pure a => intro F v Q h hq; cases h; exact hq
 | load m a k ih => rintro F v Q ⟨x, hc, h⟩ hq; exact ⟨x, hc, ih x F v Q h hq⟩
 | shape r k ih => rintro F v Q ⟨o, hb, h⟩ hq; exact ⟨o, hb, ih _ F v Q h hq⟩
 | frozen a k ih => rintro F v Q ⟨o, hb, h⟩ hq; exact ⟨o, hb, ih _ F v Q h hq⟩
 | getObj r k ih => rintro F v Q ⟨o, hb, hn, h⟩ hq; exact ⟨o, hb, hn, ih _ F v Q h hq⟩
 | program k ih => intro F v Q h hq; exact ih _ F v Q h hq
 | mark m k ih => intro F v Q h hq; exact ih F v Q h hq
 | _ => intro F v Q h; exact h.elim
theorem rdo_bind {α β : Type} {P : Program} (s : Sem α) (f : α → Sem β) : ∀ (F : PH) (v : β), rdo P (s >>= f) F v ↔ ∃ a, rdo P s F a ∧ rdo P (f a) F v := by
 show ∀ (F : PH) (v : β), rdo P (s.bind f) F v ↔ _
 induction s with
 | pure a =>
  intro F v
  simp only [Sem.bind, rdo]
  exact ⟨fun h => ⟨a, rfl, h⟩, by rintro ⟨_, rfl, h⟩; exact h⟩
 | load m a k ih =>
  intro F v
  simp only [Sem.bind, rdo, ih]
  exact ⟨fun ⟨x, hc, a, h1, h2⟩ => ⟨a, ⟨x, hc, h1⟩, h2⟩, fun ⟨a, ⟨x, hc, h1⟩, h2⟩ => ⟨x, hc, a, h1, h2⟩⟩
 | shape r k ih =>
  intro F v
  simp only [Sem.bind, rdo, ih]
  exact ⟨fun ⟨x, hc, a, h1, h2⟩ => ⟨a, ⟨x, hc, h1⟩, h2⟩, fun ⟨a, ⟨x, hc, h1⟩, h2⟩ => ⟨x, hc, a, h1, h2⟩⟩
 | frozen a k ih =>
  intro F v
  simp only [Sem.bind, rdo, ih]
  exact ⟨fun ⟨x, hc, a, h1, h2⟩ => ⟨a, ⟨x, hc, h1⟩, h2⟩, fun ⟨a, ⟨x, hc, h1⟩, h2⟩ => ⟨x, hc, a, h1, h2⟩⟩
 | getObj r k ih =>
  intro F v
  simp only [Sem.bind, rdo, ih]
  exact ⟨fun ⟨x, hc, hn, a, h1, h2⟩ => ⟨a, ⟨x, hc, hn, h1⟩, h2⟩, fun ⟨a, ⟨x, hc, hn, h1⟩, h2⟩ => ⟨x, hc, hn, a, h1, h2⟩⟩
 | program k ih => intro F v; simp only [Sem.bind, rdo, ih]
 | mark m k ih => intro F v; simp only [Sem.bind, rdo, ih]
 | _ => intro F v; simp [Sem.bind, rdo]
@[simp] theorem rdo_pure {α : Type} {P : Program} (a v : α) (F : PH) : rdo P (pure a : Sem α) F v ↔ a = v := Iff.rfl
@[simp] theorem runs_pure {α : Type} {P : Program} (a : α) (F : PH) (Q : α → PH → Prop) : runs P (pure a : Sem α) F Q ↔ Q a F := Iff.rfl
@[simp] theorem rdo_map {α β : Type} {P : Program} (f : α → β) (s : Sem α) (F : PH) (v : β) : rdo P (f <$> s) F v ↔ ∃ a, rdo P s F a ∧ f a = v := rdo_bind s (fun a => pure (f a)) F v
@[simp] theorem runs_map {α β : Type} {P : Program} (f : α → β) (s : Sem α) (F : PH) (Q : β → PH → Prop) : runs P (f <$> s) F Q ↔ runs P s F (fun a F' => Q (f a) F') := runs_bind s (fun a => pure (f a)) F Q
def tsz (P : Program) (t : TypeId) : Option (Nat × Nat) := (P.info? t).map fun i => (i.size, i.bytes)
def tzero (P : Program) (t : TypeId) : Option Value := (P.info? t).bind (·.zero)
theorem tsz_info {P : Program} {t s b : Nat} (h : tsz P t = some (s, b)) : ∃ i, P.info? t = some i ∧ i.size = s ∧ i.bytes = b := by
 unfold tsz at h
 cases hi : P.info? t with
 | none => simp [hi] at h
 | some i => simp [hi] at h; exact ⟨i, rfl, h.1, h.2⟩
theorem tzero_info {P : Program} {t : Nat} {z : Value} (h : tzero P t = some z) : ∃ i, P.info? t = some i ∧ i.zero = some z := by
 unfold tzero at h
 cases hi : P.info? t with
 | none => simp [hi] at h
 | some i => simp [hi] at h; exact ⟨i, rfl, h⟩
section
variable {P : Program} {F : PH}
theorem rdo_sizeOf {t s b : Nat} (h : tsz P t = some (s, b)) (v : Nat) : rdo P (sizeOf t) F v ↔ s = v := by
 obtain ⟨i, h1, h2, h3⟩ := tsz_info h
 unfold sizeOf typeInfo program
 simp only [rdo_bind]
 constructor
 ·rintro ⟨i', ⟨p, hp, h⟩, h'⟩
  simp only [rdo] at hp
  subst hp
  rw [h1] at h
  simp only [rdo_pure] at h h'
  subst h
  rw [← h2]; exact h'
 ·rintro rfl
  refine ⟨i, ⟨P, rfl, ?_⟩, ?_⟩
  ·rw [h1]; rfl
  ·rw [← h2]; rfl
theorem runs_sizeOf {t s b : Nat} (h : tsz P t = some (s, b)) (Q : Nat → PH → Prop) : runs P (sizeOf t) F Q ↔ Q s F := by
 obtain ⟨i, h1, h2, h3⟩ := tsz_info h
 unfold sizeOf typeInfo program
 simp only [runs_bind', runs, h1, runs_pure, h2]
theorem runs_typeInfo_bytes {t s b : Nat} (h : tsz P t = some (s, b)) : ∃ i : TypeInfo, i.bytes = b ∧ ∀ (F : PH) (Q : TypeInfo → PH → Prop), runs P (typeInfo t) F Q ↔ Q i F := by
 obtain ⟨i, h1, h2, h3⟩ := tsz_info h
 refine ⟨i, h3, fun F Q => ?_⟩
 unfold typeInfo program
 simp only [runs_bind', runs, h1, runs_pure]
theorem rdo_underlying {t : Nat} {d : TypeDesc} (h : P.underlying t = some d) (v : TypeDesc) : rdo P (underlying t) F v ↔ d = v := by
 unfold underlying program
 simp only [rdo_bind]
 constructor
 ·rintro ⟨p, hp, h'⟩
  simp only [rdo] at hp
  subst hp
  rw [h] at h'
  exact h'
 ·rintro rfl
  exact ⟨P, rfl, by rw [h]; rfl⟩
theorem runs_underlying {t : Nat} {d : TypeDesc} (h : P.underlying t = some d) (Q : TypeDesc → PH → Prop) : runs P (underlying t) F Q ↔ Q d F := by
 unfold underlying program
 simp only [runs_bind', runs, h, runs_pure]
theorem runs_zeroValue {t : Nat} {z : Value} (h : tzero P t = some z) (Q : Value → PH → Prop) : runs P (zeroValue t) F Q ↔ Q z F := by
 obtain ⟨i, h1, h2⟩ := tzero_info h
 unfold zeroValue typeInfo program
 simp only [runs_bind', runs, h1, runs_pure, h2]
theorem rdo_zeroValue {t : Nat} {z : Value} (h : tzero P t = some z) (v : Value) : rdo P (zeroValue t) F v ↔ z = v := by
 obtain ⟨i, h1, h2⟩ := tzero_info h
 unfold zeroValue typeInfo program
 simp only [rdo_bind]
 constructor
 ·rintro ⟨i', ⟨p, hp, h⟩, h'⟩
  simp only [rdo] at hp
  subst hp
  rw [h1] at h
  simp only [rdo_pure] at h
  subst h
  rw [h2] at h'
  exact h'
 ·rintro rfl
  exact ⟨i, ⟨P, rfl, by rw [h1]; rfl⟩, by rw [h2]; rfl⟩
def RD (P : Program) (E : En) (F : PH) (o : Oper) (v : Value) : Prop := rdo P (execOp (ev E) o) F (.value v)
variable {n : Nat} {Q : Exit → En → PH → Prop} {E : En} {ops : Array Oper} {o : Oper} {l : List Oper}
theorem HL_rd {v : Value} (h : RD P E F o v) (K : HL P n ops Q l (updO E o.dst v) F) (hw : Region.wanted o (yE ops E) = true := by rfl) (hd : dstOk n o.dst = true := by rfl) :
  HL P n ops Q (o :: l) E F := HL_op hw hd (rdo_runs _ _ _ _ h K)
theorem RG_rd {i : Nat} {oi : Oper} {v : Value} {fuel : Nat} {listed : Array Bool} {Sp : Pend} (hi : ops[i]? = some oi)
  (hs : Region.noSelect ops = true) (hf : Region.free .any ops listed i = true) (hr : (Region.ready .any ops listed).contains i = true) (hd : dstOk n oi.dst = true)
  (hp : ∀ c E F, ¬ Q (.panic c) E F) (hw : Region.wanted oi (yE ops E) = true) (hy : RD P E F oi v) (hh : holdF Sp F)
  (h : RG P n ops Q fuel (listed.setIfInBounds i true) ((i, fun w => ∃ e F, Sat e w F ∧ RD P E F oi v) :: Sp) (updO E oi.dst v) F) : RG P n ops Q (fuel + 1) listed Sp E F :=
 RG_read hi hs hf hr hd hp hw (fun w ⟨e, F', st, h⟩ => rdo_run _ _ _ _ h st) (fun e w st => ⟨e, F, st, hy⟩) hh h
theorem RG_pu {i : Nat} {oi : Oper} {v : Value} {fuel : Nat} {listed : Array Bool} {Sp : Pend} (hi : ops[i]? = some oi)
  (hs : Region.noSelect ops = true) (hf : Region.free .any ops listed i = true) (hr : (Region.ready .any ops listed).contains i = true) (hd : dstOk n oi.dst = true)
  (hp : ∀ c E F, ¬ Q (.panic c) E F) (hw : Region.wanted oi (yE ops E) = true) (hy : ∀ F, RD P E F oi v) (hh : holdF Sp F)
  (h : RG P n ops Q fuel (listed.setIfInBounds i true) Sp (updO E oi.dst v) F) : RG P n ops Q (fuel + 1) listed Sp E F :=
 RG_pure hi hs hf hr hd hp hw (fun w _ => by
  have st : Sat ⟨w.os, w.tape, w.output, fun _ => none⟩ w (fun _ => none) := ⟨rfl, rfl, rfl, fun b o h => (by cases h), fun b o h => (by cases h)⟩
  exact rdo_run _ _ _ _ (hy _) st) hh h
theorem allW_rd {v : Value} (h : RD P E F o v) : allW F (fun w => ∃ e F, Sat e w F ∧ RD P E F o v) := fun e _ st => ⟨e, F, st, h⟩
end
structure Sl where
 base : Option Addr
 len : Nat
 cap : Nat
def Sl.v (s : Sl) : Value := .slice s.base s.len s.cap
def Sl.nil : Sl := ⟨none, 0, 0⟩
theorem w64_eq {x : Int} (h1 : -9223372036854775808 ≤ x) (h2 : x ≤ 9223372036854775807) : IntKind.i64.wrap x = x := by
 have e : IntKind.i64.wrap x = if x % 18446744073709551616 ≥ 9223372036854775808 then x % 18446744073709551616 - 18446744073709551616 else x % 18446744073709551616 := by
  unfold IntKind.wrap
  simp [IntKind.bits, IntKind.signed]
 rw [e]
 split <;> omega
section
variable {P : Program} {F : PH} {E : En} {o : Oper}
theorem r_move {x : Operand} {v : Value} (ho : o.op = .move x) (hx : ev E x = v) : RD P E F o v := by
 simp only [RD, execOp, ho, rdo_pure, hx]
theorem r_assign {x : Operand} {v : Value} (ho : o.op = .assign x) (hx : ev E x = v) : RD P E F o v := by
 simp only [RD, execOp, ho, rdo_pure, hx]
theorem r_pick {c a b : Operand} {t : Bool} {v : Value} (ho : o.op = .pick c a b) (hc : ev E c = .bool t) (h1 : t = true → ev E a = v) (h2 : t = false → ev E b = v) : RD P E F o v := by
 cases t
 ·simp [RD, execOp, ho, rdo_bind, hc, asBool, h2]
 ·simp [RD, execOp, ho, rdo_bind, hc, asBool, h1]
abbrev VP := Value → PH → Prop
abbrev nx1 {α : Type} (I : Nat → α → PH → Prop) (m : Nat) : α → PH → Prop := fun a F => ∃ m', m' < m ∧ I m' a F
abbrev nx2 {α β : Type} (I : Nat → α → β → PH → Prop) (m : Nat) : α → β → PH → Prop := fun a b F => ∃ m', m' < m ∧ I m' a b F
abbrev nx3 {α β γ : Type} (I : Nat → α → β → γ → PH → Prop) (m : Nat) : α → β → γ → PH → Prop := fun a b c F => ∃ m', m' < m ∧ I m' a b c F
theorem r_pf {c a b : Operand} {v : Value} (ho : o.op = .pick c a b) (hc : ev E c = .bool false) (h2 : ev E b = v := by rfl) : RD P E F o v := r_pick ho hc (fun h => by cases h) (fun _ => h2)
theorem r_pt {c a b : Operand} {v : Value} (ho : o.op = .pick c a b) (hc : ev E c = .bool true) (h2 : ev E a = v := by rfl) : RD P E F o v := r_pick ho hc (fun _ => h2) (fun h => by cases h)
theorem r_nilCheck {x : Operand} {a : Addr} (ho : o.op = .nilCheck x) (hx : ev E x = .pointer (some a)) : RD P E F o (.pointer (some a)) := by
 simp [RD, execOp, ho, hx]
theorem r_extract {x : Operand} {vs : Array Value} {i : Nat} {v : Value} (ho : o.op = .extract x i) (hx : ev E x = .tuple vs) (hi : vs[i]? = some v) : RD P E F o v := by
 simp [RD, execOp, ho, hx, Instr.extract, hi, rdo_bind]
section
variable {x y : Operand} {t t' : TypeId} {k : IntKind} {a b : Int}
theorem r_add (ho : o.op = .binOp .add t x y t') (hx : ev E x = .int k a) (hy : ev E y = .int k b) : RD P E F o (.int k (k.wrap (a + b))) := by
 simp [RD, execOp, ho, hx, hy, binOp, eqGuard, Op.intArith, rdo_bind]
theorem r_sub (ho : o.op = .binOp .sub t x y t') (hx : ev E x = .int k a) (hy : ev E y = .int k b) : RD P E F o (.int k (k.wrap (a - b))) := by
 simp [RD, execOp, ho, hx, hy, binOp, eqGuard, Op.intArith, rdo_bind]
theorem r_mul (ho : o.op = .binOp .mul t x y t') (hx : ev E x = .int k a) (hy : ev E y = .int k b) : RD P E F o (.int k (k.wrap (a * b))) := by
 simp [RD, execOp, ho, hx, hy, binOp, eqGuard, Op.intArith, rdo_bind]
theorem r_quo (ho : o.op = .binOp .quo t x y t') (hx : ev E x = .int k a) (hy : ev E y = .int k b) (hb : b ≠ 0) : RD P E F o (.int k (k.wrap (a.tdiv b))) := by
 simp [RD, execOp, ho, hx, hy, binOp, eqGuard, Op.intDiv, rdo_bind, hb]
theorem r_rem (ho : o.op = .binOp .rem t x y t') (hx : ev E x = .int k a) (hy : ev E y = .int k b) (hb : b ≠ 0) : RD P E F o (.int k (a.tmod b)) := by
 simp [RD, execOp, ho, hx, hy, binOp, eqGuard, Op.intDiv, rdo_bind, hb]
theorem r_or (ho : o.op = .binOp .or t x y t') (hx : ev E x = .int k a) (hy : ev E y = .int k b) : RD P E F o (.int k (k.wrap ((BitVec.ofInt k.bits a ||| BitVec.ofInt k.bits b).toNat))) := by
 simp [RD, execOp, ho, hx, hy, binOp, eqGuard, Op.intBits, rdo_bind]
theorem r_lss (ho : o.op = .binOp .lss t x y t') (hx : ev E x = .int k a) (hy : ev E y = .int k b) : RD P E F o (.bool (decide (a < b))) := by
 simp [RD, execOp, ho, hx, hy, binOp, eqGuard, Op.intCmp, rdo_bind]
theorem r_gtr (ho : o.op = .binOp .gtr t x y t') (hx : ev E x = .int k a) (hy : ev E y = .int k b) : RD P E F o (.bool (decide (b < a))) := by
 simp [RD, execOp, ho, hx, hy, binOp, eqGuard, Op.intCmp, rdo_bind]
theorem r_geq (ho : o.op = .binOp .geq t x y t') (hx : ev E x = .int k a) (hy : ev E y = .int k b) : RD P E F o (.bool (decide (b ≤ a))) := by
 simp [RD, execOp, ho, hx, hy, binOp, eqGuard, Op.intCmp, rdo_bind]
theorem r_eql (ho : o.op = .binOp .eql t x y t') (hx : ev E x = .int k a) (hy : ev E y = .int k b) : RD P E F o (.bool (a == b)) := by
 simp [RD, execOp, ho, hx, hy, binOp, eqGuard, Op.intCmp, rdo_bind]
theorem r_neq (ho : o.op = .binOp .neq t x y t') (hx : ev E x = .int k a) (hy : ev E y = .int k b) : RD P E F o (.bool (a != b)) := by
 simp [RD, execOp, ho, hx, hy, binOp, eqGuard, Op.intCmp, rdo_bind]
theorem r_shl {k' : IntKind} (ho : o.op = .binOp .shl t x y t') (hx : ev E x = .int k a) (hy : ev E y = .int k' b) (hb : 0 ≤ b) : RD P E F o (.int k (k.wrap (a * 2 ^ (min b.toNat k.bits)))) := by
 simp [RD, execOp, ho, hx, hy, binOp, eqGuard, Op.shift, rdo_bind, Int.not_lt.2 hb]
theorem r_shr {k' : IntKind} (ho : o.op = .binOp .shr t x y t') (hx : ev E x = .int k a) (hy : ev E y = .int k' b) (hb : 0 ≤ b) : RD P E F o (.int k (a.fdiv (2 ^ (min b.toNat k.bits)))) := by
 simp [RD, execOp, ho, hx, hy, binOp, eqGuard, Op.shift, rdo_bind, Int.not_lt.2 hb]
theorem r_not {c : Bool} (ho : o.op = .unOp .not t x) (hx : ev E x = .bool c) : RD P E F o (.bool !c) := by
 simp [RD, execOp, ho, hx, Op.unary, rdo_bind]
theorem r_convInt {k' : IntKind} {d : TypeDesc} (ho : o.op = .convert t t' x) (hx : ev E x = .int k a) (h1 : P.underlying t = some d) (h2 : P.underlying t' = some (.int k')) : RD P E F o (.int k' (k'.wrap a)) := by
 simp [RD, execOp, ho, hx, convert, rdo_bind, rdo_underlying h1, rdo_underlying h2, Conv.intToInt]
theorem eqGuard_none {op : BinOp} {v u : Value} (h : (match v, u with | .nilIface, .nilIface => false | .agg _, .agg _ => false | _, _ => true) = true) : rdo P (eqGuard op t x y v u) F () := by
 unfold eqGuard
 cases op <;> simp <;> (split <;> first | (simp at h; done) | rfl)
theorem r_eqlOf {v u : Value} {r : Bool} (ho : o.op = .binOp .eql t x y t') (hx : ev E x = v) (hy : ev E y = u) (hg : rdo P (eqGuard .eql t x y v u) F ()) (he : rdo P (Op.equal t v u) F r)
  (hb : binOp .eql t v u = (do pure (.bool (← Op.equal t v u)))) : RD P E F o (.bool r) := by
 simp only [RD, execOp, ho, hx, hy, rdo_bind]
 refine ⟨.bool r, ⟨(), hg, ?_⟩, rfl⟩
 rw [hb, rdo_bind]
 exact ⟨r, he, rfl⟩
theorem rdo_eqInSl {m : Nat} {s : Sl} {e' : TypeId} (h1 : P.underlying t = some (.slice e')) : rdo P (Op.equalIn (m + 1) t s.v (.slice none 0 0)) F s.base.isNone := by
 simp only [Op.equalIn, rdo_bind]
 refine ⟨_, (rdo_underlying h1 _).2 rfl, ?_⟩
 obtain ⟨b, l, c⟩ := s
 cases b <;> rfl
theorem r_eqlSlNil {s : Sl} {e' : TypeId} (ho : o.op = .binOp .eql t x y t') (hx : ev E x = s.v) (hy : ev E y = .slice none 0 0) (h1 : P.underlying t = some (.slice e')) : RD P E F o (.bool s.base.isNone) :=
 r_eqlOf ho hx hy (eqGuard_none rfl) (rdo_eqInSl h1) rfl
theorem r_neqS {c d : ByteArray} (ho : o.op = .binOp .neq t x y t') (hx : ev E x = .string c) (hy : ev E y = .string d) : RD P E F o (.bool (!(c.toList == d.toList))) := by
 simp [RD, execOp, ho, hx, hy, binOp, eqGuard, rdo_bind, Op.stringOp]
end
section
variable {x y : Operand} {t t' : TypeId} {k : IntKind} {a b : Int}
theorem r_lenSl {s : Sl} {e' : TypeId} (ho : o.op = .call { callee := .builtin .len, args := #[x], argTypes := #[t] }) (hx : ev E x = s.v) (h1 : P.underlying t = some (.slice e')) : RD P E F o (.int .i64 s.len) := by
 simp [RD, execOp, ho, resolve, invoke, builtin, hx, Sl.v, Builtin.len_, rdo_bind, rdo_underlying h1, goInt]
theorem r_lenStr {s : ByteArray} (ho : o.op = .call { callee := .builtin .len, args := #[x], argTypes := #[t] }) (hx : ev E x = .string s) (h1 : P.underlying t = some .string) : RD P E F o (.int .i64 s.size) := by
 simp [RD, execOp, ho, resolve, invoke, builtin, hx, Builtin.len_, rdo_bind, rdo_underlying h1, goInt]
theorem r_max2 {ts : Array TypeId} (ho : o.op = .call { callee := .builtin .max, args := #[x, y], argTypes := ts }) (hx : ev E x = .int k a) (hy : ev E y = .int k b) : RD P E F o (.int k (max a b)) := by
 have : (if b > a then b else a) = max a b := by omega
 simp [RD, execOp, ho, resolve, invoke, builtin, hx, hy, Builtin.max_, Builtin.max2, rdo_bind]
 omega
theorem r_min2 {ts : Array TypeId} (ho : o.op = .call { callee := .builtin .min, args := #[x, y], argTypes := ts }) (hx : ev E x = .int k a) (hy : ev E y = .int k b) : RD P E F o (.int k (min a b)) := by
 simp [RD, execOp, ho, resolve, invoke, builtin, hx, hy, Builtin.min_, Builtin.min2, rdo_bind]
 omega
end
def aggT (d : TypeDesc) : Bool := match d with | .struct _ | .array _ _ => true | _ => false
theorem rdo_isAgg {t : Nat} {d : TypeDesc} (h : P.underlying t = some d) (v : Bool) : rdo P (isAgg t) F v ↔ aggT d = v := by
 unfold isAgg
 simp only [rdo_bind, rdo_underlying h, exists_eq_left']
 cases d <;> simp [aggT]
def PH.row (F : PH) (a : Addr) (cs : Array Value) : Prop := ∀ i, (h : i < cs.size) → F.cell (a.add i) = some cs[i]
theorem rdo_loadCellsFrom {a : Addr} : ∀ (n i : Nat) (acc cs : Array Value), cs.size = i + n → acc.toList = cs.toList.take i → F.row a cs → rdo P (loadCellsFrom a i n acc) F cs := by
 intro n
 induction n with
 | zero =>
  intro i acc cs hs ha _
  show acc = cs
  apply Array.ext'
  rw [ha, List.take_of_length_le]
  simp only [Array.length_toList]
  omega
 | succ n ih =>
  intro i acc cs hs ha hr
  have hi : i < cs.size := by omega
  simp only [loadCellsFrom, rdo_bind]
  refine ⟨cs[i], ⟨_, hr i hi, rfl⟩, ?_⟩
  refine ih (i + 1) _ cs (by omega) ?_ hr
  rw [Array.toList_push, ha, List.take_succ_eq_append_getElem (by simpa using hi)]
  simp
theorem rdo_loadCells {a : Addr} {cs : Array Value} (hr : F.row a cs) : rdo P (loadCells a cs.size) F cs :=
 rdo_loadCellsFrom cs.size 0 #[] cs (by omega) (by simp) hr
theorem r_load1 {x : Operand} {t : TypeId} {d : TypeDesc} {a : Addr} {v : Value} (ho : o.op = .load t x) (hx : ev E x = .pointer (some a)) (h1 : P.underlying t = some d) (h2 : aggT d = false) (hc : F.cell a = some v) :
  RD P E F o v := by
 simp [RD, execOp, ho, hx, Instr.loadAt, Instr.sureAddr, loadVar, rdo_bind, rdo_isAgg h1, h2, load, rdo, hc]
theorem r_loadN {x : Operand} {t : TypeId} {d : TypeDesc} {a : Addr} {cs : Array Value} {b : Nat} (ho : o.op = .load t x) (hx : ev E x = .pointer (some a)) (h1 : P.underlying t = some d) (h2 : aggT d = true)
  (h3 : tsz P t = some (cs.size, b)) (hr : F.row a cs) : RD P E F o (.agg cs) := by
 have := rdo_loadCells (P := P) hr
 simp [RD, execOp, ho, hx, Instr.loadAt, Instr.sureAddr, loadVar, rdo_bind, rdo_isAgg h1, h2, rdo_sizeOf h3, this]
theorem rdo_fieldPlace {a : Addr} {f : Field} {s b : Nat} (h : tsz P f.type = some (s, b)) (hs : s ≠ 0) (v : Addr) : rdo P (fieldPlace a f) F v ↔ a.add f.offset = v := by
 simp [fieldPlace, rdo_bind, rdo_sizeOf h, hs]
theorem r_fieldAddr {x : Operand} {t i : Nat} {a : Addr} {fs : Array Field} {f : Field} {s b : Nat} (ho : o.op = .fieldAddr t x i) (hx : ev E x = .pointer (some a)) (h1 : P.underlying t = some (.struct fs))
  (h2 : fs[i]? = some f) (h3 : tsz P f.type = some (s, b)) (hs : s ≠ 0) : RD P E F o (.pointer (some (a.add f.offset))) := by
 simp [RD, execOp, ho, hx, Instr.fieldAt, Instr.sureAddr, rdo_bind, rdo_underlying h1, h2, rdo_fieldPlace h3 hs]
theorem r_indexAddrSl {x y : Operand} {t e' s b : Nat} {base : Addr} {len cap : Nat} {k : IntKind} {i : Int} (ho : o.op = .indexAddr t x y) (hx : ev E x = .slice (some base) len cap) (hy : ev E y = .int k i)
  (h1 : P.underlying t = some (.slice e')) (h2 : tsz P e' = some (s, b)) (h3 : 0 ≤ i) (h4 : i < len) : RD P E F o (.pointer (some (base.add (i.toNat * s)))) := by
 simp [RD, execOp, ho, hx, hy, Instr.indexAt, asIntOf, rdo_bind, rdo_underlying h1, h3, h4, rdo_sizeOf h2]
theorem r_indexAddrAr {x y : Operand} {t e' s b n : Nat} {base : Addr} {k : IntKind} {i : Int} (ho : o.op = .indexAddr t x y) (hx : ev E x = .pointer (some base)) (hy : ev E y = .int k i)
  (h1 : P.underlying t = some (.array n e')) (h2 : tsz P e' = some (s, b)) (h3 : 0 ≤ i) (h4 : i < n) : RD P E F o (.pointer (some (base.add (i.toNat * s)))) := by
 simp [RD, execOp, ho, hx, hy, Instr.indexAt, asIntOf, rdo_bind, rdo_underlying h1, h3, h4, rdo_sizeOf h2, Instr.sureAddr]
theorem rdo_sliceBound {k : IntKind} {i : Int} {y : Nat} {c : BoundsCode} (h1 : 0 ≤ i) (h2 : i ≤ y) (v : Nat) : rdo P (Instr.sliceBound (.int k i) y c) F v ↔ i.toNat = v := by
 simp [Instr.sliceBound, asIntOf, rdo_bind, h1, h2]
def boundOk (v : Option Value) (dflt : Nat) (r : Nat) : Prop := (v = none ∧ r = dflt) ∨ ∃ k i, v = some (.int k i) ∧ 0 ≤ i ∧ i.toNat = r
theorem rdo_sliceBounds2 {sl : Bool} {len cap : Nat} {lo hi : Option Value} {l h : Nat} (hh : boundOk hi len h) (hl : boundOk lo 0 l) (h1 : l ≤ h) (h2 : h ≤ cap) (v : Nat × Nat × Nat) :
  rdo P (Instr.sliceBounds sl len cap lo hi none) F v ↔ (l, h, cap) = v := by
 rcases hh with ⟨rfl, rfl⟩ | ⟨k, i, rfl, hi0, rfl⟩ <;> rcases hl with ⟨rfl, rfl⟩ | ⟨k', j, rfl, hj0, rfl⟩
 ·simp [Instr.sliceBounds, rdo_bind]
 ·have e2 : ∀ c x, rdo P (Instr.sliceBound (.int k' j) h c) F x ↔ j.toNat = x := fun c x => rdo_sliceBound hj0 (by omega) x
  cases sl <;> simp [Instr.sliceBounds, rdo_bind, e2]
 ·have e1 : ∀ c x, rdo P (Instr.sliceBound (.int k i) cap c) F x ↔ i.toNat = x := fun c x => rdo_sliceBound hi0 (by omega) x
  cases sl <;> simp [Instr.sliceBounds, rdo_bind, e1]
 ·have e1 : ∀ c x, rdo P (Instr.sliceBound (.int k i) cap c) F x ↔ i.toNat = x := fun c x => rdo_sliceBound hi0 (by omega) x
  have e2 : ∀ c x, rdo P (Instr.sliceBound (.int k' j) i.toNat c) F x ↔ j.toNat = x := fun c x => rdo_sliceBound hj0 (by omega) x
  cases sl <;> simp [Instr.sliceBounds, rdo_bind, e1, e2]
theorem rdo_sliceBounds3 {sl : Bool} {len cap : Nat} {lo : Option Value} {k k' : IntKind} {i m : Int} {l : Nat} (hl : boundOk lo 0 l) (h0 : 0 ≤ i) (hm0 : 0 ≤ m) (h1 : l ≤ i.toNat) (h2 : i ≤ m) (h3 : m ≤ cap) (v : Nat × Nat × Nat) :
  rdo P (Instr.sliceBounds sl len cap lo (some (.int k i)) (some (.int k' m))) F v ↔ (l, i.toNat, m.toNat) = v := by
 have e1 : ∀ c x, rdo P (Instr.sliceBound (.int k' m) cap c) F x ↔ m.toNat = x := fun c x => rdo_sliceBound hm0 h3 x
 have e2 : ∀ c x, rdo P (Instr.sliceBound (.int k i) m.toNat c) F x ↔ i.toNat = x := fun c x => rdo_sliceBound h0 (by omega) x
 rcases hl with ⟨rfl, rfl⟩ | ⟨k'', j, rfl, hj0, rfl⟩
 ·cases sl <;> simp [Instr.sliceBounds, rdo_bind, e1, e2]
 ·have e3 : ∀ c x, rdo P (Instr.sliceBound (.int k'' j) i.toNat c) F x ↔ j.toNat = x := fun c x => rdo_sliceBound hj0 (by omega) x
  cases sl <;> simp [Instr.sliceBounds, rdo_bind, e1, e2, e3]
def Sl.cut (s : Sl) (size l h m : Nat) : Sl := ⟨if m = l then s.base else s.base.map (·.add (l * size)), h - l, m - l⟩
theorem r_sliceSl {x : Operand} {lo hi : Option Operand} {t e' size b : Nat} {s : Sl} {l h : Nat} (ho : o.op = .slice t x lo hi none) (hx : ev E x = s.v) (h1 : P.underlying t = some (.slice e')) (h2 : tsz P e' = some (size, b))
  (hl : boundOk (lo.map (ev E)) 0 l) (hh : boundOk (hi.map (ev E)) s.len h) (h3 : l ≤ h) (h4 : h ≤ s.cap) : RD P E F o (s.cut size l h s.cap).v := by
 have := rdo_sliceBounds2 (P := P) (F := F) (sl := true) hh hl h3 h4
 simp [RD, execOp, ho, hx, Instr.sliceAt, Instr.slice, Sl.v, Sl.cut, rdo_bind, rdo_underlying h1, rdo_sizeOf h2, this]
theorem r_sliceSl3 {x hi mx : Operand} {lo : Option Operand} {t e' size b : Nat} {s : Sl} {l : Nat} {k k' : IntKind} {i m : Int} (ho : o.op = .slice t x lo (some hi) (some mx)) (hx : ev E x = s.v) (h1 : P.underlying t = some (.slice e')) (h2 : tsz P e' = some (size, b))
  (hl : boundOk (lo.map (ev E)) 0 l) (hi' : ev E hi = .int k i) (hm : ev E mx = .int k' m) (h0 : 0 ≤ i) (hm0 : 0 ≤ m) (h3 : l ≤ i.toNat) (h4 : i ≤ m) (h5 : m ≤ s.cap) : RD P E F o (s.cut size l i.toNat m.toNat).v := by
 have := rdo_sliceBounds3 (P := P) (F := F) (sl := true) (len := s.len) (k := k) (k' := k') hl h0 hm0 h3 h4 h5
 simp [RD, execOp, ho, hx, Instr.sliceAt, Instr.slice, Sl.v, Sl.cut, rdo_bind, rdo_underlying h1, rdo_sizeOf h2, hi', hm, this]
theorem r_sliceAr {x : Operand} {lo hi : Option Operand} {t e' size b n : Nat} {a : Addr} {l h : Nat} (ho : o.op = .slice t x lo hi none) (hx : ev E x = .pointer (some a)) (h1 : P.underlying t = some (.array n e')) (h2 : tsz P e' = some (size, b))
  (hl : boundOk (lo.map (ev E)) 0 l) (hh : boundOk (hi.map (ev E)) n h) (h3 : l ≤ h) (h4 : h ≤ n) : RD P E F o (Sl.cut ⟨some a, n, n⟩ size l h n).v := by
 have := rdo_sliceBounds2 (P := P) (F := F) (sl := false) hh hl h3 h4
 simp [RD, execOp, ho, hx, Instr.sliceAt, Instr.sureAddr, Sl.v, Sl.cut, rdo_bind, rdo_underlying h1, rdo_sizeOf h2, this]
 split <;> rfl
end
section
variable {P : Program} {F : PH} {E : En} {o : Oper} {K : En → PH → Prop}
def placesOf (P : Program) (fs : Array Field) : Array (Nat × Nat) := fs.map fun f => (f.offset, P.cellsOf f.type)
def knownFields (P : Program) (fs : Array Field) : Bool := fs.all fun f => (P.info? f.type).isSome
theorem rdo_sizeOf' {t : Nat} (h : (P.info? t).isSome = true) : rdo P (sizeOf t) F (P.cellsOf t) := by
 cases hi : P.info? t with
 | none => simp [hi] at h
 | some i =>
  have : tsz P t = some (i.size, i.bytes) := by simp [tsz, hi]
  rw [rdo_sizeOf this]
  simp [Program.cellsOf, hi]
theorem rdo_mapM_list {α β : Type} (f : α → Sem β) (g : α → β) : ∀ (l : List α), (∀ x ∈ l, rdo P (f x) F (g x)) → rdo P (l.mapM f) F (l.map g)
 | [], _ => by simp
 | x :: l, h => by
  have h1 := h x (List.mem_cons_self ..)
  have h2 := rdo_mapM_list f g l fun y hy => h y (List.mem_cons_of_mem _ hy)
  simp only [List.mapM_cons, rdo_bind, List.map_cons]
  exact ⟨_, h1, _, h2, rfl⟩
theorem rdo_places {fs : Array Field} (h : knownFields P fs = true) : rdo P (fs.mapM fun f => do pure (f.offset, ← sizeOf f.type)) F (placesOf P fs) := by
 have hall : ∀ f ∈ fs.toList, (P.info? f.type).isSome = true := by
  intro f hf
  have := Array.all_eq_true_iff_forall_mem.1 h f (by simpa using hf)
  exact this
 rw [Array.mapM_eq_mapM_toList]
 have := rdo_mapM_list (P := P) (F := F) (fun f : Field => (do pure (f.offset, ← sizeOf f.type) : Sem (Nat × Nat))) (fun f => (f.offset, P.cellsOf f.type)) fs.toList
  (fun f hf => by simp only [rdo_bind]; exact ⟨_, rdo_sizeOf' (hall f hf), rfl⟩)
 refine (rdo_map _ _ _ _).2 ⟨_, this, ?_⟩
 apply Array.ext'
 simp [placesOf]
theorem r_buildStruct {t : Nat} {parts : Array (Nat × Operand)} {fs : Array Field} {z : Value} {vs : List (Nat × Value)} {cells : Array Value} (ho : o.op = .build t parts) (h1 : P.underlying t = some (.struct fs)) (hz : tzero P t = some z)
  (hk : knownFields P fs = true) (hv : (parts.map fun (i, x) => (i, ev E x)).toList = vs) (hf : Instr.fill (fun i => (placesOf P fs)[i]?) z.cells vs = some cells) : RD P E F o (.agg cells) := by
 simp only [RD, execOp, ho, rdo_bind, Instr.build, rdo_pure]
 refine ⟨_, ⟨_, (rdo_zeroValue hz _).2 rfl, _, (rdo_underlying h1 _).2 rfl, ?_⟩, rfl⟩
 simp only [rdo_bind]
 refine ⟨_, by have := rdo_places (P := P) (F := F) hk; simpa [rdo_bind] using this, ?_⟩
 rw [hv, hf]
 rfl
theorem r_buildArray {t n e' s b : Nat} {parts : Array (Nat × Operand)} {z : Value} {vs : List (Nat × Value)} {cells : Array Value} (ho : o.op = .build t parts) (h1 : P.underlying t = some (.array n e')) (hz : tzero P t = some z)
  (h2 : tsz P e' = some (s, b)) (hv : (parts.map fun (i, x) => (i, ev E x)).toList = vs) (hf : Instr.fill (fun i => some (i * s, s)) z.cells vs = some cells) : RD P E F o (.agg cells) := by
 simp only [RD, execOp, ho, rdo_bind, Instr.build, rdo_pure]
 refine ⟨_, ⟨_, (rdo_zeroValue hz _).2 rfl, _, (rdo_underlying h1 _).2 rfl, ?_⟩, rfl⟩
 simp only [rdo_bind, rdo_sizeOf h2, exists_eq_left']
 rw [hv, hf]
 rfl
theorem e_alloc {t : Nat} {z : Value} (ho : o.op = .alloc t) (hz : tzero P t = some z) (h : ∀ b, F b = none → K (updO E o.dst (.pointer (some ⟨b, 0, none⟩))) (F.set b (.cells z.cells t))) :
  runs P (execOp (ev E) o) F (stepK P K o E) := by
 simp only [execOp, ho, Instr.alloc, runs_bind', runs_zeroValue hz, runs_pure, stepK, newVar, newRow, newObj]
 exact h
theorem e_box {t : Nat} {x : Operand} {v : Value} (ho : o.op = .box t x) (hx : ev E x = v) (h : ∀ b, F b = none → K (updO E o.dst (.pointer (some ⟨b, 0, none⟩))) (F.set b (.cells v.cells t))) :
  runs P (execOp (ev E) o) F (stepK P K o E) := by
 simp only [execOp, ho, Instr.box, runs_bind', runs_pure, stepK, newVar, newRow, newObj, hx]
 exact h
theorem e_buildSlice {t e' s b n : Nat} {parts : Array (Nat × Operand)} {z : Value} {vs : List (Nat × Value)} {cells : Array Value} (ho : o.op = .buildSlice t n parts) (h1 : P.underlying t = some (.slice e')) (h2 : tsz P e' = some (s, b))
  (hn : n * s ≤ 16777216) (hz : tzero P e' = some z) (hv : (parts.map fun (i, x) => (i, ev E x)).toList = vs) (hf : Instr.fill (fun i => some (i * s, s)) (Builtin.zeroCells z.cells n) vs = some cells) (hs : n * s = n * z.cells.size)
  (h : ∀ b, F b = none → K (updO E o.dst (.slice (some ⟨b, 0, none⟩) n n)) (F.set b (.cells cells e'))) :
  runs P (execOp (ev E) o) F (stepK P K o E) := by
 simp only [execOp, ho, Instr.buildSlice, runs_bind', runs_underlying h1, runs_sizeOf h2]
 rw [if_neg (by omega)]
 by_cases h0 : n * s = 0
 ·have hzz : (Array.range (n * s)).map (fun i => (#[] : Array Value)[i % (#[] : Array Value).size]!) = Builtin.zeroCells z.cells n := by simp [Builtin.zeroCells, h0, ← hs]
  rw [if_pos h0]
  simp only [runs_bind', runs_pure]
  rw [hzz, hv, hf]
  simp only [runs_bind', runs_pure, newRow, newObj, stepK]
  exact h
 ·have hzz : (Array.range (n * s)).map (fun i => z.cells[i % z.cells.size]!) = Builtin.zeroCells z.cells n := by simp [Builtin.zeroCells, hs]
  rw [if_neg h0]
  simp only [runs_bind', runs_zeroValue hz, runs_pure]
  rw [hzz, hv, hf]
  simp only [runs_bind', runs_pure, newRow, newObj, stepK]
  exact h
def wr (c : Array Value) (off : Nat) : List Value → Array Value
 | [] => c
 | v :: vs => wr (c.setIfInBounds off v) (off + 1) vs
theorem wr_size (vs : List Value) : ∀ (c : Array Value) (off : Nat), (wr c off vs).size = c.size := by
 induction vs with
 | nil => intro c off; rfl
 | cons v vs ih => intro c off; simp [wr, ih]
theorem wr_get (vs : List Value) : ∀ (c : Array Value) (off i : Nat), off + vs.length ≤ c.size → (wr c off vs)[i]? = if off ≤ i ∧ i < off + vs.length then vs[i - off]? else c[i]? := by
 induction vs with
 | nil => intro c off i _; simp [wr]; omega
 | cons v vs ih =>
  intro c off i h
  simp only [List.length_cons] at h
  rw [wr, ih _ _ _ (by simp; omega), Array.getElem?_setIfInBounds]
  by_cases h1 : off = i
  ·subst h1
   rw [if_neg (by omega), if_pos rfl, if_pos (by omega), if_pos (by simp)]
   simp
  ·by_cases h2 : off + 1 ≤ i ∧ i < off + 1 + vs.length
   ·rw [if_pos h2, if_pos (by simp; omega)]
    rw [show i - off = (i - (off + 1)) + 1 by omega, List.getElem?_cons_succ]
   ·rw [if_neg h2, if_neg h1, if_neg (by simp; omega)]
theorem set_set (F : PH) (b : Nat) (o o' : Obj) : (F.set b o).set b o' = F.set b o' := by
 funext x
 unfold PH.set
 split <;> rfl
theorem set_get (F : PH) (b : Nat) (o : Obj) : (F.set b o) b = some o := by simp [PH.set]
theorem runs_storeCells {e' : TypeId} : ∀ (vs : List Value) (i : Nat) (F : PH) (a : Addr) (c : Array Value) (Q : Unit → PH → Prop), a.spot = none → F a.block = some (.cells c e' (0, 0)) → a.off + i + vs.length ≤ c.size →
  (∀ v ∈ vs, storable v) → vs ≠ [] → Q () (F.set a.block (.cells (wr c (a.off + i) vs) e')) → runs P (storeCells a vs i) F Q := by
 intro vs
 induction vs with
 | nil => intro i F a c Q _ _ _ _ h; exact absurd rfl h
 | cons v vs ih =>
  intro i F a c Q hsp hb hl hst _ hq
  simp only [List.length_cons] at hl
  have hoff : (a.add i).off = a.off + i := by unfold Addr.add; split <;> simp_all
  have hblk : (a.add i).block = a.block := by unfold Addr.add; split <;> rfl
  have hspo : (a.add i).spot = none := by unfold Addr.add; split <;> simp_all
  simp only [storeCells, runs_bind', store, runs]
  refine ⟨hst v (List.mem_cons_self ..), c, e', (0, 0), by rw [hblk]; exact hb, hspo, by rw [hoff]; omega, by simp [frz], ?_⟩
  rw [hblk, hoff]
  cases vs with
  | nil => exact hq
  | cons u us =>
   refine ih (i + 1) _ a (c.setIfInBounds (a.off + i) v) Q hsp (set_get _ _ _) (by simp; simp at hl; omega) (fun x hx => hst x (List.mem_cons_of_mem _ hx)) (by simp) ?_
   rw [set_set]
   exact hq
theorem e_store1 {t : Nat} {x y : Operand} {a : Addr} {v : Value} {c : Array Value} {e' s b : Nat} (ho : o.op = .store t x y) (hx : ev E x = .pointer (some a)) (hy : ev E y = v) (hsz : tsz P t = some (s, b)) (h1 : v.cells = #[v]) (hs : s = 1) (hst : storable v)
  (hsp : a.spot = none) (hb : F a.block = some (.cells c e' (0, 0))) (hl : a.off < c.size) (h : K (updO E o.dst undef) (F.set a.block (.cells (c.setIfInBounds a.off v) e'))) :
  runs P (execOp (ev E) o) F (stepK P K o E) := by
 subst hs
 simp only [execOp, ho, hx, hy, Instr.storeAt, Instr.sureAddr, runs_bind', runs_pure, storeVar, runs_sizeOf hsz, h1]
 simp only [List.size_toArray, List.length_cons, List.length_nil, ne_eq, Nat.zero_add, not_true_eq_false, if_false]
 refine runs_storeCells [v] 0 F a c _ hsp hb (by simp; omega) (by simpa using hst) (by simp) ?_
 exact h
theorem e_storeN {t : Nat} {x y : Operand} {a : Addr} {vs c : Array Value} {e' s b : Nat} (ho : o.op = .store t x y) (hx : ev E x = .pointer (some a)) (hy : ev E y = .agg vs) (hsz : tsz P t = some (s, b)) (hs : vs.size = s) (hst : ∀ v ∈ vs.toList, storable v)
  (h0 : vs.toList ≠ []) (hsp : a.spot = none) (hb : F a.block = some (.cells c e' (0, 0))) (hl : a.off + s ≤ c.size) (h : K (updO E o.dst undef) (F.set a.block (.cells (wr c a.off vs.toList) e'))) :
  runs P (execOp (ev E) o) F (stepK P K o E) := by
 subst hs
 simp only [execOp, ho, hx, hy, Instr.storeAt, Instr.sureAddr, runs_bind', runs_pure, storeVar, runs_sizeOf hsz, Value.cells]
 simp only [ne_eq, not_true_eq_false, if_false]
 exact runs_storeCells vs.toList 0 F a c _ hsp hb (by simpa using hl) hst h0 h
def callableB (P : Program) (f : FuncId) : Bool := match P.funcs[f]? with | some fn => !(fn.name == "runtime.NumGoroutine") && fn.body.isSome | none => false
theorem runs_callFunc {f : FuncId} {args : Array Value} {Q : Next → PH → Prop} (hc : callableB P f = true) (h : Q (.enter f args) F) : runs P (callFunc f args) F Q := by
 unfold callableB at hc
 cases hf : P.funcs[f]? with
 | none => simp [hf] at hc
 | some fn =>
  simp only [hf, Bool.and_eq_true, Bool.not_eq_true'] at hc
  simp only [callFunc, runs_bind', program, runs, hf, hc.1]
  have : fn.body.isNone = false := by cases hb : fn.body <;> simp_all
  simp only [this, Bool.false_eq_true, if_false, runs_pure]
  exact h
theorem e_call {f : FuncId} {args : Array Operand} {ts : Array TypeId} {vs : Array Value} (ho : o.op = .call { callee := .value (.func f), args := args, argTypes := ts }) (hc : callableB P f = true) (hv : args.map (ev E) = vs)
  (h : Spec P f vs F fun v F' => K (updO E o.dst v) F') : runs P (execOp (ev E) o) F (stepK P K o E) := by
 simp only [execOp, ho, resolve, ev, Deferred.ofValue, runs_bind', runs_pure, invoke]
 refine runs_callFunc hc ?_
 rw [show args.map (fun x => ev E x) = vs from hv]
 simpa [stepK] using h
theorem e_append {x y : Operand} {ts : Array TypeId} {s u : Value} (ho : o.op = .call { callee := .builtin .append, args := #[x, y], argTypes := ts }) (hx : ev E x = s) (hy : ev E y = u)
  (h : runs P (Builtin.append_ ts o.type #[s, u]) F fun v F' => K (updO E o.dst v) F') : runs P (execOp (ev E) o) F (stepK P K o E) := by
 simp [execOp, ho, resolve, hx, hy, runs_bind', invoke, builtin, stepK]
 exact h
theorem e_copy {x y : Operand} {ts : Array TypeId} {s u : Value} (ho : o.op = .call { callee := .builtin .copy, args := #[x, y], argTypes := ts }) (hx : ev E x = s) (hy : ev E y = u)
  (h : runs P (Builtin.copy_ ts o.type #[s, u]) F fun v F' => K (updO E o.dst v) F') : runs P (execOp (ev E) o) F (stepK P K o E) := by
 simp [execOp, ho, resolve, hx, hy, runs_bind', invoke, builtin, stepK]
 exact h
theorem e_makeSlice {t : TypeId} {x y : Operand} {u v : Value} (ho : o.op = .makeSlice t x y) (hx : ev E x = u) (hy : ev E y = v)
  (h : runs P (Instr.makeSlice t u v) F fun v F' => K (updO E o.dst v) F') : runs P (execOp (ev E) o) F (stepK P K o E) := by
 simp [execOp, ho, hx, hy, runs_bind', stepK]
 exact h
theorem e_makeMap0 {t : TypeId} (ho : o.op = .makeMap t none) (h : ∀ b, F b = none → K (updO E o.dst (.map (some b))) (F.set b (.map #[] 0))) :
  runs P (execOp (ev E) o) F (stepK P K o E) := by
 simp only [execOp, ho, Instr.makeMap, Option.map_none, newObj, runs_bind', runs_pure, runs, stepK]
 exact h
theorem e_mapUpdate {t : TypeId} {x y z : Operand} {u v q : Value} (ho : o.op = .mapUpdate t x y z) (hx : ev E x = u) (hy : ev E y = v) (hz : ev E z = q)
  (h : runs P (Instr.mapUpdate t u v q) F fun _ F' => K (updO E o.dst undef) F') : runs P (execOp (ev E) o) F (stepK P K o E) := by
 simp only [execOp, ho, hx, hy, hz, runs_bind', runs_pure, stepK]
 exact h
theorem r_lookup {t : TypeId} {x y : Operand} {u v r : Value} {ok : Bool} (ho : o.op = .lookup t x y ok) (hx : ev E x = u) (hy : ev E y = v) (h : rdo P (Instr.lookup t u v ok) F r) : RD P E F o r := by
 simp only [RD, execOp, ho, hx, hy, rdo_bind, rdo_pure]
 exact ⟨r, h, rfl⟩
variable {n : Nat} {Q : Exit → En → PH → Prop} {ops : Array Oper} {l : List Oper}
end
def atF (F : PH) (K : PH → Prop) : Prop := K F
theorem atE {F : PH} {K : PH → Prop} (h : atF F K) : K F := h
theorem atI {F : PH} {K : PH → Prop} (h : K F) : atF F K := h
section
variable {P : Program} {n : Nat} {Q : Exit → En → PH → Prop} {E : En} {F : PH} {ops : Array Oper} {l : List Oper} {d : Tmp} {op : Op} {ty : TypeId} {pos : String} {aft : Array Edge} {v : Value} {gd : Option (Nat × Bool)}
theorem s_rd (h : RD P E F ⟨some d, op, ty, pos, aft, gd⟩ v) (K : HL P n ops Q l (upd E d v) F) (hw : Region.wanted ⟨some d, op, ty, pos, aft, gd⟩ (yE ops E) = true := by rfl) (hd : Nat.blt d n = true := by rfl) :
  HL P n ops Q (⟨some d, op, ty, pos, aft, gd⟩ :: l) E F := HL_rd h K hw hd
theorem s_skip (K : HL P n ops Q l (upd E d undef) F) (hw : Region.wanted ⟨some d, op, ty, pos, aft, gd⟩ (yE ops E) = false := by rfl) (hd : Nat.blt d n = true := by rfl) :
  HL P n ops Q (⟨some d, op, ty, pos, aft, gd⟩ :: l) E F := HL_skip hw hd K
def EFK (P : Program) (E : En) (F : PH) (o : Oper) (K : En → PH → Prop) : Prop := runs P (execOp (ev E) o) F (stepK P K o E)
theorem s_ef (h : EFK P E F ⟨some d, op, ty, pos, aft, gd⟩ (HL P n ops Q l)) (hw : Region.wanted ⟨some d, op, ty, pos, aft, gd⟩ (yE ops E) = true := by rfl) (hd : Nat.blt d n = true := by rfl) :
  HL P n ops Q (⟨some d, op, ty, pos, aft, gd⟩ :: l) E F := HL_op hw hd h
theorem s_ef0 (h : EFK P E F ⟨none, op, ty, pos, aft, gd⟩ (HL P n ops Q l)) (hw : Region.wanted ⟨none, op, ty, pos, aft, gd⟩ (yE ops E) = true := by rfl) :
  HL P n ops Q (⟨none, op, ty, pos, aft, gd⟩ :: l) E F := HL_op hw rfl h
theorem upd_same {t : Nat} (h : E t = v) : upd E t v = E := by
 funext x
 unfold upd
 by_cases hx : x = t
 ·subst hx
  have : Nat.beq x x = true := by simp
  rw [this]
  exact h.symm
 ·rw [beq_ne hx]; rfl
theorem HL_known {t : Nat} (h : E t = v) (K : HL P n ops Q l (upd E t v) F) : HL P n ops Q l E F := by rw [upd_same h] at K; exact K
theorem RG_known {t fuel : Nat} {listed : Array Bool} {Sp : Pend} (h : E t = v) (K : RG P n ops Q fuel listed Sp (upd E t v) F) : RG P n ops Q fuel listed Sp E F := by rw [upd_same h] at K; exact K
theorem HC_seqJ {x y : Code} (J : En → PH → Prop) (hy : ∀ E F, J E F → HC P n y Q E F) (hx : HC P n x (thenQ J Q) E F) : HC P n (.seq x y) Q E F := fun e a w ag st =>
 wp_seq (wp_mono (hx e a w ag st) fun ex a' w' ⟨E', F', ag', st', q⟩ => by
  cases ex with
  | normal => exact hy _ _ q e a' w' ag' st'
  | _ => exact ⟨E', F', ag', st', q⟩)
theorem HC_condT {c : Operand} {x y : Code} (hc : ev E c = .bool true) (h : HC P n x Q E F) : HC P n (.cond c x y) Q E F := HC_cond hc (fun _ => h) (fun h => by cases h)
theorem HC_condF {c : Operand} {x y : Code} (hc : ev E c = .bool false) (h : HC P n y Q E F) : HC P n (.cond c x y) Q E F := HC_cond hc (fun h => by cases h) (fun _ => h)
section
variable {K : En → PH → Prop}
theorem k_alloc {t : Nat} {z : Value} (hz : tzero P t = some z) (h : ∀ b, F b = none → K (upd E d (.pointer (some ⟨b, 0, none⟩))) (F.set b (.cells z.cells t))) : EFK P E F ⟨some d, .alloc t, ty, pos, aft, gd⟩ K := e_alloc rfl hz h
theorem k_box {t : Nat} {x : Operand} {cs : Array Value} (hx : ev E x = v) (hv : v.cells = cs) (h : ∀ b, F b = none → K (upd E d (.pointer (some ⟨b, 0, none⟩))) (F.set b (.cells cs t))) : EFK P E F ⟨some d, .box t x, ty, pos, aft, gd⟩ K := by
 subst hv; exact e_box rfl hx h
theorem evPN : (([] : List (Nat × Operand)).map fun p => (p.1, ev E p.2)) = [] := rfl
theorem evPC {i : Nat} {x : Operand} {u : Value} {xs : List (Nat × Operand)} {us : List (Nat × Value)} (hx : ev E x = u) (h : (xs.map fun p => (p.1, ev E p.2)) = us) : (((i, x) :: xs).map fun p => (p.1, ev E p.2)) = (i, u) :: us := by simp [hx, h]
theorem fillN {place : Nat → Option (Nat × Nat)} {cells r : Array Value} (h : cells = r) : Instr.fill place cells [] = some r := by rw [← h]; rfl
theorem fill1 {place : Nat → Option (Nat × Nat)} {cells r : Array Value} {i off : Nat} {v : Value} {rest : List (Nat × Value)} (hp : place i = some (off, 1)) (hv : v.cells = #[v]) (ho : Nat.blt off cells.size = true)
  (h : Instr.fill place (cells.setIfInBounds off v) rest = some r) : Instr.fill place cells ((i, v) :: rest) = some r := by
 have ho' : off < cells.size := Nat.le_of_ble_eq_true ho
 simp only [Instr.fill, hp, hv]
 simp only [List.size_toArray, List.length_cons, List.length_nil]
 rw [if_neg (by simp; omega)]
 simpa using h
theorem wr_foldl (vs : List Value) : ∀ (c : Array Value) (off k : Nat), (vs.zipIdx k).foldl (fun cs (x : Value × Nat) => cs.setIfInBounds (off + x.2) x.1) c = wr c (off + k) vs := by
 induction vs with
 | nil => intro c off k; rfl
 | cons v vs ih => intro c off k; simp only [List.zipIdx_cons, List.foldl_cons, wr]; rw [ih]; rfl
theorem fillA {place : Nat → Option (Nat × Nat)} {cells cs r : Array Value} {i off s : Nat} {rest : List (Nat × Value)} (hp : place i = some (off, s)) (hs : cs.size = s) (ho : Nat.ble (off + s) cells.size = true)
  (h : Instr.fill place (wr cells off cs.toList) rest = some r) : Instr.fill place cells ((i, .agg cs) :: rest) = some r := by
 have ho' : off + s ≤ cells.size := Nat.le_of_ble_eq_true ho
 subst hs
 have e : cs.zipIdx.foldl (fun cs (x : Value × Nat) => cs.setIfInBounds (off + x.2) x.1) cells = wr cells off cs.toList := by
  have := wr_foldl cs.toList cells off 0
  rw [← Array.foldl_toList]
  simpa using this
 unfold Instr.fill
 rw [hp]
 show (if (decide (cs.size ≠ cs.size) || decide (off + cs.size > cells.size)) = true then none else Instr.fill place (cs.zipIdx.foldl (fun cs (x : Value × Nat) => cs.setIfInBounds (off + x.2) x.1) cells) rest) = some r
 rw [e, if_neg (by simp; omega)]
 exact h
theorem place_of {fs : Array Field} {i off s b : Nat} {f : Field} (h : fs[i]? = some f) (hoff : f.offset = off) (h3 : tsz P f.type = some (s, b)) : (placesOf P fs)[i]? = some (off, s) := by
 obtain ⟨j, h4, h5, _⟩ := tsz_info h3
 simp [placesOf, h, hoff, Program.cellsOf, h4, h5]
theorem w_buildStruct {t : Nat} {parts : List (Nat × Operand)} {fs : Array Field} {z : Value} {vs : List (Nat × Value)} {cells : Array Value} (h1 : P.underlying t = some (.struct fs)) (hz : tzero P t = some z)
  (hk : knownFields P fs = true) (hv : (parts.map fun p => (p.1, ev E p.2)) = vs) (hf : Instr.fill (fun i => (placesOf P fs)[i]?) z.cells vs = some cells) : RD P E F ⟨some d, .build t parts.toArray, ty, pos, aft, gd⟩ (.agg cells) :=
 r_buildStruct rfl h1 hz hk (by simpa using hv) hf
theorem w_buildArray {t m e' s b : Nat} {parts : List (Nat × Operand)} {z : Value} {vs : List (Nat × Value)} {cells : Array Value} (h1 : P.underlying t = some (.array m e')) (hz : tzero P t = some z)
  (h2 : tsz P e' = some (s, b)) (hv : (parts.map fun p => (p.1, ev E p.2)) = vs) (hf : Instr.fill (fun i => some (i * s, s)) z.cells vs = some cells) : RD P E F ⟨some d, .build t parts.toArray, ty, pos, aft, gd⟩ (.agg cells) :=
 r_buildArray rfl h1 hz h2 (by simpa using hv) hf
theorem zc_flat (z : Array Value) (hz : Nat.blt 0 z.size = true) : ∀ n, Builtin.zeroCells z n = ((List.replicate n z.toList).flatten).toArray := by
 have hz' : 0 < z.size := Nat.le_of_ble_eq_true hz
 intro n
 apply Array.ext'
 apply List.ext_getElem
 ·simp [Builtin.zeroCells, List.length_flatten]
 ·intro i h1 h2
  simp only [Builtin.zeroCells, Array.toList_map, Array.toList_range, List.getElem_map, List.getElem_range]
  have key : ∀ n i (h : i < ((List.replicate n z.toList).flatten).length), ((List.replicate n z.toList).flatten)[i] = z[i % z.size]! := by
   intro n
   induction n with
   | zero => intro i h; simp at h
   | succ n ih =>
    intro i h
    have e : (List.replicate (n + 1) z.toList).flatten = z.toList ++ (List.replicate n z.toList).flatten := by simp [List.replicate_succ]
    by_cases hi : i < z.size
    ·have : ((List.replicate (n + 1) z.toList).flatten)[i] = z.toList[i]'(by simpa using hi) := by
      simp only [e]
      rw [List.getElem_append_left]
     rw [this, Nat.mod_eq_of_lt hi]
     simp [hi]
    ·have hl : i - z.size < ((List.replicate n z.toList).flatten).length := by
      simp [List.length_flatten, Nat.add_mul] at h ⊢
      omega
     have : ((List.replicate (n + 1) z.toList).flatten)[i] = ((List.replicate n z.toList).flatten)[i - z.size] := by
      simp only [e]
      rw [List.getElem_append_right (by simpa using hi)]
      simp
     have hm : i % z.size = (i - z.size) % z.size := Nat.mod_eq_sub_mod (by omega)
     rw [this, ih _ hl, hm]
  exact (key n i (by simpa using h2)).symm
theorem fillWhole {z : Value} {cs : Array Value} {s : Nat} (hs : cs.size = s) (hz : z.cells.size = s) (h0 : Nat.blt 0 s = true) : Instr.fill (fun i => some (i * s, s)) (Builtin.zeroCells z.cells 1) [(0, .agg cs)] = some cs := by
 have h1 : Nat.blt 0 z.cells.size = true := by rw [hz]; exact h0
 rw [zc_flat _ h1]
 have e : ((List.replicate 1 z.cells.toList).flatten).toArray = z.cells := by simp
 rw [e]
 refine fillA (off := 0 * s) rfl hs (by rw [hz]; simp) ?_
 have hw : wr z.cells 0 cs.toList = cs := by
  apply Array.ext
  ·rw [wr_size, hz, hs]
  ·intro i h1 h2
   have := wr_get cs.toList z.cells 0 i (by simp [hz, hs])
   rw [if_pos (by simp; omega)] at this
   simp only [Nat.sub_zero] at this
   rw [Array.getElem?_eq_getElem h1] at this
   simp at this
   rw [Array.getElem?_eq_getElem h2] at this
   exact Option.some.inj this
 rw [show 0 * s = 0 by omega, hw]
 rfl
def oneL : List Value → Prop
 | [] => True
 | v :: l => v.cells = #[v] ∧ oneL l
def enumL (k : Nat) : List Value → List (Nat × Value)
 | [] => []
 | v :: l => (k, v) :: enumL (k + 1) l
theorem fill_enum : ∀ (l : List Value) (k : Nat) (cells : Array Value), oneL l → k + l.length ≤ cells.size → Instr.fill (fun i => some (i * 1, 1)) cells (enumL k l) = some (wr cells k l) := by
 intro l
 induction l with
 | nil => intro k cells _ _; rfl
 | cons v l ih =>
  intro k cells ho hl
  simp only [List.length_cons] at hl
  refine fill1 (off := k) (by simp) ho.1 (Nat.ble_eq_true_of_le (by omega)) ?_
  exact ih (k + 1) _ ho.2 (by simp; omega)
theorem fillSeq {z : Value} {l : List Value} {m : Nat} {cells0 : Array Value} (hm : l.length = m) (h0 : Builtin.zeroCells z.cells m = cells0) (hz : z.cells.size = 1) (ho : oneL l) : Instr.fill (fun i => some (i * 1, 1)) cells0 (enumL 0 l) = some l.toArray := by
 subst hm
 subst h0
 have hs : (Builtin.zeroCells z.cells l.length).size = l.length := by simp [Builtin.zeroCells, hz]
 rw [fill_enum l 0 _ ho (by rw [hs]; omega)]
 congr 1
 apply Array.ext
 ·rw [wr_size, hs]; simp
 ·intro i h1 h2
  have := wr_get l (Builtin.zeroCells z.cells l.length) 0 i (by rw [hs]; omega)
  rw [if_pos (by simp at h2; omega)] at this
  simp only [Nat.sub_zero] at this
  rw [Array.getElem?_eq_getElem h1] at this
  simp at h2
  rw [List.getElem?_eq_getElem h2] at this
  simpa using Option.some.inj this
theorem k_buildSeq {t e' b m : Nat} {parts : List (Nat × Operand)} {z : Value} {l : List Value} (h1 : P.underlying t = some (.slice e')) (h2 : tsz P e' = some (1, b))
  (hn : m * 1 ≤ 16777216) (hz : tzero P e' = some z) (hz1 : z.cells.size = 1) (hm : l.length = m) (ho : oneL l) (hv : (parts.map fun p => (p.1, ev E p.2)) = enumL 0 l)
  (h : ∀ b, F b = none → K (upd E d (Sl.v ⟨some ⟨b, 0, none⟩, m, m⟩)) (F.set b (.cells l.toArray e'))) : EFK P E F ⟨some d, .buildSlice t m parts.toArray, ty, pos, aft, gd⟩ K :=
 e_buildSlice rfl h1 h2 hn hz (by simpa using hv) (fillSeq hm rfl hz1 ho) (by rw [hz1]) h
theorem k_buildSlice {t e' s b m : Nat} {parts : List (Nat × Operand)} {z : Value} {vs : List (Nat × Value)} {cells cells0 : Array Value} (h1 : P.underlying t = some (.slice e')) (h2 : tsz P e' = some (s, b))
  (hn : m * s ≤ 16777216) (hz : tzero P e' = some z) (h0 : Builtin.zeroCells z.cells m = cells0) (hv : (parts.map fun p => (p.1, ev E p.2)) = vs) (hf : Instr.fill (fun i => some (i * s, s)) cells0 vs = some cells) (hs : m * s = m * z.cells.size)
  (h : ∀ b, F b = none → K (upd E d (Sl.v ⟨some ⟨b, 0, none⟩, m, m⟩)) (F.set b (.cells cells e'))) : EFK P E F ⟨some d, .buildSlice t m parts.toArray, ty, pos, aft, gd⟩ K := by
 subst h0; exact e_buildSlice rfl h1 h2 hn hz (by simpa using hv) hf hs h
theorem k_store1 {t : Nat} {x y : Operand} {a : Addr} {b : Nat} (hx : ev E x = .pointer (some a)) (hy : ev E y = v) (hsz : tsz P t = some (1, b)) (h1 : v.cells = #[v]) (hst : storable v)
  (h : ∃ c e', F a.block = some (.cells c e' (0, 0)) ∧ a.spot = none ∧ a.off < c.size ∧ K E (F.set a.block (.cells (c.setIfInBounds a.off v) e'))) : EFK P E F ⟨none, .store t x y, ty, pos, aft, gd⟩ K := by
 obtain ⟨c, e', hb, hsp, hl, h⟩ := h
 exact e_store1 rfl hx hy hsz h1 rfl hst hsp hb hl h
theorem k_storeN {t : Nat} {x y : Operand} {a : Addr} {vs : Array Value} {s b : Nat} (hx : ev E x = .pointer (some a)) (hy : ev E y = .agg vs) (hsz : tsz P t = some (s, b)) (hs0 : s ≠ 0)
  (h : vs.size = s ∧ (∀ v ∈ vs.toList, storable v) ∧ ∃ c e', F a.block = some (.cells c e' (0, 0)) ∧ a.spot = none ∧ a.off + s ≤ c.size ∧ K E (F.set a.block (.cells (wr c a.off vs.toList) e'))) :
  EFK P E F ⟨none, .store t x y, ty, pos, aft, gd⟩ K := by
 obtain ⟨hs, hst, c, e', hb, hsp, hl, h⟩ := h
 refine e_storeN rfl hx hy hsz hs hst (fun h0 => ?_) hsp hb hl h
 have : vs.toList.length = 0 := by rw [h0]; rfl
 simp at this
 simp [this] at hs
 omega
theorem evN : ([] : List Operand).map (ev E) = [] := rfl
theorem evC {x : Operand} {u : Value} {xs : List Operand} {us : List Value} (hx : ev E x = u) (h : xs.map (ev E) = us) : (x :: xs).map (ev E) = u :: us := by simp [hx, h]
theorem k_call {f : FuncId} {args : List Operand} {ts : Array TypeId} {vs : List Value} (hc : callableB P f = true) (hv : args.map (ev E) = vs)
  (h : Spec P f vs.toArray F fun v F' => K (upd E d v) F') : EFK P E F ⟨some d, .call ⟨.value (.func f), args.toArray, ts⟩, ty, pos, aft, gd⟩ K := e_call rfl hc (by simp [hv]) h
theorem k_append {x y : Operand} {ts : Array TypeId} {s u : Value} (hx : ev E x = s) (hy : ev E y = u)
  (h : runs P (Builtin.append_ ts ty #[s, u]) F fun v F' => K (upd E d v) F') : EFK P E F ⟨some d, .call ⟨.builtin .append, #[x, y], ts⟩, ty, pos, aft, gd⟩ K := e_append rfl hx hy h
theorem k_copy {x y : Operand} {ts : Array TypeId} {s u : Value} (hx : ev E x = s) (hy : ev E y = u)
  (h : runs P (Builtin.copy_ ts ty #[s, u]) F fun v F' => K (upd E d v) F') : EFK P E F ⟨some d, .call ⟨.builtin .copy, #[x, y], ts⟩, ty, pos, aft, gd⟩ K := e_copy rfl hx hy h
theorem k_makeSlice {t : TypeId} {x y : Operand} {u v : Value} (hx : ev E x = u) (hy : ev E y = v)
  (h : runs P (Instr.makeSlice t u v) F fun v F' => K (upd E d v) F') : EFK P E F ⟨some d, .makeSlice t x y, ty, pos, aft, gd⟩ K := e_makeSlice rfl hx hy h
theorem k_makeMap0 {t : TypeId} (h : ∀ b, F b = none → K (upd E d (.map (some b))) (F.set b (.map #[] 0))) : EFK P E F ⟨some d, .makeMap t none, ty, pos, aft, gd⟩ K := e_makeMap0 rfl h
theorem k_mapUpdate {t : TypeId} {x y z : Operand} {u v q : Value} (hx : ev E x = u) (hy : ev E y = v) (hz : ev E z = q)
  (h : runs P (Instr.mapUpdate t u v q) F fun _ F' => K E F') : EFK P E F ⟨none, .mapUpdate t x y z, ty, pos, aft, gd⟩ K := e_mapUpdate rfl hx hy hz h
end
theorem w_fieldAddr {x : Operand} {t i off : Nat} {a a' : Addr} {fs : Array Field} {f : Field} {s b : Nat} (hx : ev E x = .pointer (some a)) (h1 : P.underlying t = some (.struct fs))
  (h2 : fs[i]? = some f) (hoff : f.offset = off) (h3 : tsz P f.type = some (s, b)) (hs : Nat.blt 0 s = true) (ha : a.add off = a') : RD P E F ⟨some d, .fieldAddr t x i, ty, pos, aft, gd⟩ (.pointer (some a')) := by
 subst hoff
 subst ha
 exact r_fieldAddr rfl hx h1 h2 h3 (by have := Nat.le_of_ble_eq_true hs; omega)
theorem w_loadN {x : Operand} {t s b : Nat} {dd : TypeDesc} {a : Addr} {cs : Array Value} (hx : ev E x = .pointer (some a)) (h1 : P.underlying t = some dd) (h2 : aggT dd = true)
  (h3 : tsz P t = some (s, b)) (hs : cs.size = s) (hr : F.row a cs) : RD P E F ⟨some d, .load t x, ty, pos, aft, gd⟩ (.agg cs) := by
 subst hs
 exact r_loadN rfl hx h1 h2 h3 hr
theorem w_indexAddr {x y : Operand} {t e' s b : Nat} {sl : Sl} {base : Addr} {k : IntKind} {i : Int} (hx : ev E x = sl.v) (hy : ev E y = .int k i)
  (h1 : P.underlying t = some (.slice e')) (h2 : tsz P e' = some (s, b)) (hb : sl.base = some base) (h3 : 0 ≤ i) (h4 : i < sl.len) : RD P E F ⟨some d, .indexAddr t x y, ty, pos, aft, gd⟩ (.pointer (some (base.add (i.toNat * s)))) :=
 r_indexAddrSl (len := sl.len) (cap := sl.cap) rfl (by rw [hx, Sl.v, hb]) hy h1 h2 h3 h4
theorem w_eql {x y : Operand} {t t' : TypeId} {k : IntKind} {a b : Int} (hx : ev E x = .int k a) (hy : ev E y = .int k b) : RD P E F ⟨some d, .binOp .eql t x y t', ty, pos, aft, gd⟩ (.bool (decide (a = b))) := r_eql rfl hx hy
theorem w_neq {x y : Operand} {t t' : TypeId} {k : IntKind} {a b : Int} (hx : ev E x = .int k a) (hy : ev E y = .int k b) : RD P E F ⟨some d, .binOp .neq t x y t', ty, pos, aft, gd⟩ (.bool (decide (a ≠ b))) := by
 have h := r_neq (P := P) (F := F) (o := ⟨some d, .binOp .neq t x y t', ty, pos, aft, gd⟩) rfl hx hy
 have e : (a != b) = decide (a ≠ b) := by rw [Bool.eq_iff_iff]; simp
 rw [e] at h
 exact h
theorem bo_ev {x : Operand} {k : IntKind} {i : Int} {m : Nat} (hx : ev E x = .int k i) (h : 0 ≤ i) : boundOk (Option.map (ev E) (some x)) m i.toNat := .inr ⟨k, i, by simp [hx], h, rfl⟩
theorem bo_none {m : Nat} : boundOk none m m := .inl ⟨rfl, rfl⟩
theorem g_pu {i : Nat} {fuel : Nat} {listed : Array Bool} {Sp : Pend} (hi : ops[i]? = some ⟨some d, op, ty, pos, aft, gd⟩)
  (hs : Region.noSelect ops = true) (hf : Region.free .any ops listed i = true) (hr : (Region.ready .any ops listed).contains i = true)
  (hp : ∀ c E F, ¬ Q (.panic c) E F) (hy : ∀ F, RD P E F ⟨some d, op, ty, pos, aft, gd⟩ v) (hh : holdF Sp F)
  (h : RG P n ops Q fuel (listed.setIfInBounds i true) Sp (upd E d v) F) (hw : Region.wanted ⟨some d, op, ty, pos, aft, gd⟩ (yE ops E) = true := by rfl) (hd : Nat.blt d n = true := by rfl) : RG P n ops Q (fuel + 1) listed Sp E F :=
 RG_pu hi hs hf hr hd hp hw hy hh h
theorem g_rd {i : Nat} {fuel : Nat} {listed : Array Bool} {Sp : Pend} (hi : ops[i]? = some ⟨some d, op, ty, pos, aft, gd⟩)
  (hs : Region.noSelect ops = true) (hf : Region.free .any ops listed i = true) (hr : (Region.ready .any ops listed).contains i = true)
  (hp : ∀ c E F, ¬ Q (.panic c) E F) (hy : RD P E F ⟨some d, op, ty, pos, aft, gd⟩ v) (hh : holdF Sp F)
  (h : ∀ S : World → Prop, (∀ F, RD P E F ⟨some d, op, ty, pos, aft, gd⟩ v → allW F S) → RG P n ops Q fuel (listed.setIfInBounds i true) ((i, S) :: Sp) (upd E d v) F)
  (hw : Region.wanted ⟨some d, op, ty, pos, aft, gd⟩ (yE ops E) = true := by rfl) (hd : Nat.blt d n = true := by rfl) : RG P n ops Q (fuel + 1) listed Sp E F :=
 RG_rd hi hs hf hr hd hp hw hy hh (h _ (fun _ hr => allW_rd hr))
theorem g_skip {i : Nat} {fuel : Nat} {listed : Array Bool} {Sp : Pend} (hi : ops[i]? = some ⟨some d, op, ty, pos, aft, gd⟩)
  (hs : Region.noSelect ops = true) (hf : Region.free .any ops listed i = true) (hr : (Region.ready .any ops listed).contains i = true)
  (hp : ∀ c E F, ¬ Q (.panic c) E F) (hh : holdF Sp F)
  (h : RG P n ops Q fuel (listed.setIfInBounds i true) Sp (upd E d undef) F) (hw : Region.wanted ⟨some d, op, ty, pos, aft, gd⟩ (yE ops E) = false := by rfl) (hd : Nat.blt d n = true := by rfl) : RG P n ops Q (fuel + 1) listed Sp E F :=
 RG_skip hi hs hf hr hd hp hw hh h
theorem g_op {i : Nat} {fuel : Nat} {listed : Array Bool} {Sp Sp' : Pend} (hi : ops[i]? = some ⟨some d, op, ty, pos, aft, gd⟩) (hsp : Pend.rest .any ⟨some d, op, ty, pos, aft, gd⟩ Sp = Sp')
  (h : EFK P E F ⟨some d, op, ty, pos, aft, gd⟩ fun E' F' => holdF Sp' F' ∧ RG P n ops Q fuel (listed.setIfInBounds i true) Sp' E' F')
  (hw : Region.wanted ⟨some d, op, ty, pos, aft, gd⟩ (yE ops E) = true := by rfl) (hd : Nat.blt d n = true := by rfl) : RGop P n ops Q fuel listed Sp E F i := by
 subst hsp; exact ⟨_, hi, hd, hw, h⟩
theorem g_op0 {i : Nat} {fuel : Nat} {listed : Array Bool} {Sp Sp' : Pend} (hi : ops[i]? = some ⟨none, op, ty, pos, aft, gd⟩) (hsp : Pend.rest .any ⟨none, op, ty, pos, aft, gd⟩ Sp = Sp')
  (h : EFK P E F ⟨none, op, ty, pos, aft, gd⟩ fun E' F' => holdF Sp' F' ∧ RG P n ops Q fuel (listed.setIfInBounds i true) Sp' E' F')
  (hw : Region.wanted ⟨none, op, ty, pos, aft, gd⟩ (yE ops E) = true := by rfl) : RGop P n ops Q fuel listed Sp E F i := by
 subst hsp; exact ⟨_, hi, rfl, hw, h⟩
theorem hold0 : holdF [] F := fun _ h => by cases h
theorem holdC {i : Nat} {S : World → Prop} {Sp : Pend} (h : allW F S) (hh : holdF Sp F) : holdF ((i, S) :: Sp) F := fun r hr => by
 rcases List.mem_cons.1 hr with rfl | hr
 ·exact h
 ·exact hh r hr
theorem holdI {A B : Prop} (h : A) (k : A → B) : A ∧ B := ⟨h, k h⟩
theorem HC_draw0 {id : Nat} (hm : P.follows .mixedOrders = true) (h : holdF [] F → RG P n ops Q ops.size (Array.replicate ops.size false) [] E F) :
  HC P n (.region id ops true) Q E F := HC_draw hm (h hold0)
theorem cell_set_fresh {b : Nat} {o : Obj} {a : Addr} {u : Value} (hb : F b = none) (h : F.cell a = some u) : (F.set b o).cell a = some u := by
 unfold PH.cell PH.set at *
 by_cases hab : a.block = b
 ·subst hab; rw [hb] at h; cases h
 ·simpa [hab] using h
theorem row_set_fresh {b : Nat} {o : Obj} {a : Addr} {cs : Array Value} (hb : F b = none) (h : F.row a cs) : (F.set b o).row a cs := fun i hi => cell_set_fresh hb (h i hi)
theorem getD' {tmps : Array Value} {t : Nat} {v u : Value} (h : Array.getD tmps t undef = v) (hv : v = u) : tmps[t]?.getD undef = u := by
 rw [← Array.getD_eq_getD_getElem?, h, hv]
theorem res_cell {t s : Nat} {dd : TypeDesc} {a : Addr} {cs : Array Value} {b : Nat} {e : Ev} {w : World} (st : Sat e w F) (h1 : P.underlying t = some dd) (h2 : aggT dd = true) (h3 : tsz P t = some (s, b)) (hs : cs.size = s) (hr : F.row a cs) :
  (loadVar t a).run P w = .ok (.agg cs) w := by
 subst hs
 refine rdo_run _ F w _ ?_ st
 simp [loadVar, rdo_bind, rdo_isAgg h1, h2, rdo_sizeOf h3, rdo_loadCells hr]
def rvOk (P : Program) (E : En) (F : PH) : ResultVar → Value → Prop
 | .tmp t, v => E t = v
 | .cell x t, v => ∃ a, E x = .pointer (some a) ∧ ∀ e w, Sat e w F → (loadVar t a).run P w = .ok v w
theorem rv_tmp {t : Tmp} {v : Value} (hv : E t = v) : rvOk P E F (.tmp t) v := hv
theorem rv_cellN {x : Tmp} {t s : Nat} {dd : TypeDesc} {a : Addr} {cs : Array Value} {b : Nat} (hx : E x = .pointer (some a)) (h1 : P.underlying t = some dd) (h2 : aggT dd = true) (h3 : tsz P t = some (s, b)) (hs : cs.size = s) (hr : F.row a cs) :
  rvOk P E F (.cell x t) (.agg cs) := ⟨a, hx, fun _ _ st => res_cell st h1 h2 h3 hs hr⟩
theorem rv_run {r : ResultVar} {v : Value} (h : rvOk P E F r v) {e : Ev} {w : World} {tmps : Array Value} (st : Sat e w F) (ht : ∀ t : Nat, Array.getD tmps t undef = E t) :
  (∃ t, r = .tmp t ∧ tmps[t]?.getD undef = v) ∨ ∃ x t a, r = .cell x t ∧ tmps[x]?.getD undef = .pointer (some a) ∧ (loadVar t a).run P w = .ok v w := by
 cases r with
 | tmp t => exact .inl ⟨t, rfl, getD' (ht t) h⟩
 | cell x t =>
  obtain ⟨a, h1, h2⟩ := h
  exact .inr ⟨x, t, a, rfl, getD' (ht x) h1, h2 e w st⟩
theorem res0 {fn : Func} (h : fn.results = #[]) : resOk P fn E F (.tuple #[]) := fun e w tmps _ _ => by simp [results, h]
theorem res1 {fn : Func} {r : ResultVar} {v : Value} (h : fn.results = #[r]) (hv : rvOk P E F r v) : resOk P fn E F v := fun e w tmps st ht => by
 have k := rv_run hv st ht
 clear ht hv
 rcases k with ⟨t, rfl, h1⟩ | ⟨x, t, a, rfl, h1, h2⟩ <;> simp [results, asAddr, *]
theorem res2 {fn : Func} {r r' : ResultVar} {v v' : Value} (h : fn.results = #[r, r']) (hv : rvOk P E F r v) (hv' : rvOk P E F r' v') : resOk P fn E F (.tuple #[v, v']) := fun e w tmps st ht => by
 have k := rv_run hv st ht
 have k' := rv_run hv' st ht
 clear ht hv hv'
 rcases k with ⟨t, rfl, h1⟩ | ⟨x, t, a, rfl, h1, h2⟩ <;> rcases k' with ⟨t', rfl, h3⟩ | ⟨x', t', a', rfl, h3, h4⟩ <;> simp [results, asAddr, *]
theorem res3 {fn : Func} {r r' r'' : ResultVar} {v v' v'' : Value} (h : fn.results = #[r, r', r'']) (hv : rvOk P E F r v) (hv' : rvOk P E F r' v') (hv'' : rvOk P E F r'' v'') : resOk P fn E F (.tuple #[v, v', v'']) := fun e w tmps st ht => by
 have k := rv_run hv st ht
 have k' := rv_run hv' st ht
 have k'' := rv_run hv'' st ht
 clear ht hv hv' hv''
 rcases k with ⟨t, rfl, h1⟩ | ⟨x, t, a, rfl, h1, h2⟩ <;> rcases k' with ⟨t', rfl, h3⟩ | ⟨x', t', a', rfl, h3, h4⟩ <;> rcases k'' with ⟨t'', rfl, h5⟩ | ⟨x'', t'', a'', rfl, h5, h6⟩ <;> simp [results, asAddr, *]
theorem rt1 (fn : Func) (R : Value → PH → Prop) {t : Tmp} {v : Value} (h1 : fn.results = #[.tmp t]) (h2 : E t = v) (h : R v F) : endQ P fn R .ret E F := ⟨v, res1 h1 (rv_tmp h2), h⟩
theorem rt2 (fn : Func) (R : Value → PH → Prop) {t t' : Tmp} {v v' : Value} (h1 : fn.results = #[.tmp t, .tmp t']) (h2 : E t = v) (h3 : E t' = v') (h : R (.tuple #[v, v']) F) : endQ P fn R .ret E F := ⟨_, res2 h1 (rv_tmp h2) (rv_tmp h3), h⟩
theorem st_int {k : IntKind} {x : Int} : storable (.int k x) := ⟨(fun _ h => by cases h), (fun _ h => by cases h)⟩
theorem st_bool {x : Bool} : storable (.bool x) := ⟨(fun _ h => by cases h), (fun _ h => by cases h)⟩
theorem st_sl {x : Sl} : storable x.v := ⟨(fun _ h => by cases h), (fun _ h => by cases h)⟩
theorem st_str {x : ByteArray} : storable (.string x) := ⟨(fun _ h => by cases h), (fun _ h => by cases h)⟩
end
end Go.Proofs.Ytelkfnmdnbbniaa
