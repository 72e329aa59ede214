/-
  A program logic over partial heaps: judgements on what the model's code does, given a part of the heap. Part 1: the judgements and their rules.
-/
import Derived.Orders
import Derived.Tactics
import Derived.RowKit3
namespace Go.Proofs.YtnjcgpihfmklfaaDoor
open Go

/-- A part of a heap: what is known of some blocks. -/
abbrev PH := Nat → Option Obj

namespace PH
def set (F : PH) (b : Nat) (o : Obj) : PH := fun x => if x = b then some o else F x
def cell (F : PH) (a : Addr) : Option Value :=
  match F a.block with
  | some (.cells c _ _) => if a.spot.isSome then none else c[a.off]?
  | _ => none
def le (F G : PH) : Prop := ∀ b o, F b = some o → G b = some o
end PH

structure Ev where
  os : Os
  tape : Nat → Question → Nat
  output : Array (Nat × ByteArray)
  fr : PH

/-- The world holds what F knows; and what the frame knows, which lies beside F. -/
structure Sat (e : Ev) (w : World) (F : PH) : Prop where
  os : w.os = e.os
  tape : w.tape = e.tape
  output : w.output = e.output
  heap : ∀ b o, F b = some o → w.heap[b]? = some o
  frame : ∀ b o, e.fr b = some o → F b = none ∧ w.heap[b]? = some o

def storable (v : Value) : Prop := (∀ xs, v ≠ .agg xs) ∧ (∀ xs, v ≠ .tuple xs)

def frz (fr : Nat × Nat) (i : Nat) : Bool := fr.1 ≤ i && i < fr.2

def shapeOf : Obj → Option (TypeId × Nat)
  | .cells c e _ => some (e, c.size)
  | _ => none

def frzOf (o : Obj) (i : Nat) : Bool :=
  match o with
  | .cells _ _ fr => frz fr i
  | _ => false

/-- What a piece of the model's semantics does, given F. -/
def runs {α : Type} (P : Program) : Sem α → PH → (α → PH → Prop) → Prop
  | .pure a, F, Q => Q a F
  | .load _ a k, F, Q => ∃ v, F.cell a = some v ∧ runs P (k v) F Q
  | .store _ a v k, F, Q => storable v ∧ ∃ c e fr, F a.block = some (.cells c e fr) ∧ a.spot = none ∧ a.off < c.size ∧ frz fr a.off = false ∧
      runs P k (F.set a.block (.cells (c.setIfInBounds a.off v) e fr)) Q
  | .new o k, F, Q => ∀ b, F b = none → runs P (k b) (F.set b o) Q
  | .shape r k, F, Q => ∃ o, F r = some o ∧ runs P (k (shapeOf o)) F Q
  | .freeze a n k, F, Q => if n = 0 then runs P k F Q else ∃ c e fr, F a.block = some (.cells c e fr) ∧
      runs P k (F.set a.block (.cells c e (if fr.1 == fr.2 then (a.off, a.off + n) else (min fr.1 a.off, max fr.2 (a.off + n))))) Q
  | .frozen a k, F, Q => ∃ o, F a.block = some o ∧ runs P (k (frzOf o a.off)) F Q
  | .getObj r k, F, Q => ∃ o, F r = some o ∧ (∀ c e fr, o ≠ .cells c e fr) ∧ runs P (k o) F Q
  | .setObj r o k, F, Q => ∃ o', F r = some o' ∧ (∀ c e fr, o' ≠ .cells c e fr) ∧ runs P k (F.set r o) Q
  | .choose q k, F, Q => if q.forced then runs P (k 0) F Q else ∀ t, runs P (k (q.cut t)) F Q
  | .sys _ _, _, _ => False
  | .program k, F, Q => runs P (k P) F Q
  | .mark _ k, F, Q => runs P k F Q
  | .halt _, _, _ => False

section
variable {e : Ev} {w : World} {F : PH}

theorem Sat.cell (h : Sat e w F) {a : Addr} {v : Value} (hc : F.cell a = some v) : w.cell? a = some v := by
  unfold PH.cell at hc
  unfold World.cell?
  split at hc
  · rename_i c t fr hb
    rw [h.heap _ _ hb]
    exact hc
  · cases hc

theorem Sat.lt (h : Sat e w F) {b : Nat} {o : Obj} (hb : F b = some o) : b < w.heap.size := by
  have := h.heap _ _ hb
  exact (Array.getElem?_eq_some_iff.1 this).1

theorem Sat.fresh (h : Sat e w F) : F w.heap.size = none := by
  cases hb : F w.heap.size with
  | none => rfl
  | some o => exact absurd (h.lt hb) (by omega)

theorem Sat.push (h : Sat e w F) (o : Obj) : Sat e { w with heap := w.heap.push o } (F.set w.heap.size o) := by
  refine ⟨h.os, h.tape, h.output, fun b o' hb => ?_, fun b o' hb => ?_⟩
  · unfold PH.set at hb
    split at hb
    · rename_i hbs
      subst hbs
      simpa using hb
    · rename_i hbs
      have h1 := h.heap _ _ hb
      have h2 := h.lt hb
      show (w.heap.push o)[b]? = some o'
      rw [Array.getElem?_push, if_neg (by omega)]
      exact h1
  · obtain ⟨h1, h2⟩ := h.frame b o' hb
    have hlt := (Array.getElem?_eq_some_iff.1 h2).1
    refine ⟨?_, ?_⟩
    · unfold PH.set
      rw [if_neg (by omega)]
      exact h1
    · show (w.heap.push o)[b]? = some o'
      rw [Array.getElem?_push, if_neg (by omega)]
      exact h2

theorem Sat.modify (h : Sat e w F) {r : Nat} {o o0 : Obj} (hr : F r = some o0) (heap' : Array Obj) (h1 : heap'[r]? = some o) (h2 : ∀ b, b ≠ r → heap'[b]? = w.heap[b]?) :
    Sat e { w with heap := heap' } (F.set r o) := by
  refine ⟨h.os, h.tape, h.output, fun b o' hb => ?_, fun b o' hb => ?_⟩
  · unfold PH.set at hb
    split at hb
    · rename_i hbs
      subst hbs
      exact h1.trans hb
    · rename_i hbs
      exact (h2 b hbs).trans (h.heap _ _ hb)
  · obtain ⟨h3, h4⟩ := h.frame b o' hb
    have hb' : b ≠ r := fun e => by rw [e, hr] at h3; cases h3
    exact ⟨by unfold PH.set; rw [if_neg hb']; exact h3, (h2 b hb').trans h4⟩

theorem Sat.drawn (h : Sat e w F) (n : Nat) : Sat e { w with drawn := n } F := ⟨h.os, h.tape, h.output, h.heap, h.frame⟩

theorem runs_sound {α : Type} {P : Program} {e : Ev} (s : Sem α) : ∀ (F : PH) (w : World) (Q : α → PH → Prop), runs P s F Q → Sat e w F →
    ∃ a w' F', s.run P w = .ok a w' ∧ Sat e w' F' ∧ Q a F' := by
  induction s with
  | pure a => intro F w Q h hs; exact ⟨a, w, F, rfl, hs, h⟩
  | load m a k ih =>
    intro F w Q h hs
    obtain ⟨v, hc, h⟩ := h
    simp only [Sem.run, hs.cell hc]
    exact ih v F w Q h hs
  | store m a v k ih =>
    intro F w Q h hs
    obtain ⟨⟨h1, h2⟩, c, t, fr, hb, hsp, hlt, hfr, h⟩ := h
    have hheap := hs.heap _ _ hb
    have hcell : w.cell? a = some c[a.off] := by simp [World.cell?, hheap, hsp, hlt]
    have hfz : w.frozen? a = false := by
      obtain ⟨lo, hi⟩ := fr
      simpa [World.frozen?, hheap, frz] using hfr
    have hrun : (Sem.store m a v k).run P w = k.run P (w.setCell a v) := by
      cases v <;> first | exact absurd rfl (h1 _) | exact absurd rfl (h2 _) | simp [Sem.run, hcell, hfz]
    rw [hrun]
    refine ih _ _ Q h ?_
    have : w.setCell a v = { w with heap := (w.setCell a v).heap } := rfl
    rw [this]
    refine hs.modify hb _ ?_ (fun b hb' => ?_)
    · simp [World.setCell, Array.getElem?_modify, hheap, hsp]
    · simp only [World.setCell, Array.getElem?_modify]
      rw [if_neg (fun h => hb' h.symm)]
  | new o k ih =>
    intro F w Q h hs
    exact ih _ _ _ Q (h _ hs.fresh) (hs.push o)
  | shape r k ih =>
    intro F w Q h hs
    obtain ⟨o, hb, h⟩ := h
    have hheap := hs.heap _ _ hb
    have : w.shape? r = (shapeOf o) := by
      unfold World.shape?
      rw [hheap]
      cases o <;> simp [shapeOf]
    simp only [Sem.run, this]
    exact ih _ F w Q h hs
  | freeze a n k ih =>
    intro F w Q h hs
    simp only [Sem.run, World.freeze]
    unfold runs at h
    split at h
    · rename_i hn
      rw [if_pos hn]
      exact ih F w Q h hs
    · rename_i hn
      rw [if_neg hn]
      obtain ⟨c, t, fr, hb, h⟩ := h
      have hheap := hs.heap _ _ hb
      refine ih _ _ Q h (hs.modify hb _ ?_ (fun b hb' => ?_))
      · simp [Array.getElem?_modify, hheap]
      · rw [Array.getElem?_modify, if_neg (fun h => hb' h.symm)]
  | frozen a k ih =>
    intro F w Q h hs
    obtain ⟨o, hb, h⟩ := h
    have hheap := hs.heap _ _ hb
    have : w.frozen? a = (frzOf o a.off) := by
      unfold World.frozen?
      rw [hheap]
      cases o <;> simp [frzOf, frz]
    simp only [Sem.run, this]
    exact ih _ F w Q h hs
  | getObj r k ih =>
    intro F w Q h hs
    obtain ⟨o, hb, hn, h⟩ := h
    have hheap := hs.heap _ _ hb
    have : (Sem.getObj r k).run P w = (k o).run P w := by
      cases o <;> first | exact absurd rfl (hn _ _ _) | simp only [Sem.run, hheap]
    rw [this]
    exact ih _ F w Q h hs
  | setObj r o k ih =>
    intro F w Q h hs
    obtain ⟨o', hb, hn, h⟩ := h
    have hheap := hs.heap _ _ hb
    have hlt := hs.lt hb
    have : (Sem.setObj r o k).run P w = k.run P { w with heap := w.heap.setIfInBounds r o } := by
      cases o' <;> first | exact absurd rfl (hn _ _ _) | simp only [Sem.run, hheap]
    rw [this]
    refine ih _ _ Q h (hs.modify hb _ ?_ (fun b hb' => ?_))
    · simp [hlt]
    · rw [Array.getElem?_setIfInBounds_ne (fun h => hb' h.symm)]
  | choose q k ih =>
    intro F w Q h hs
    simp only [Sem.run]
    unfold runs at h
    split
    · rename_i hf
      rw [if_pos hf] at h
      exact ih _ F w Q h hs
    · rename_i hf
      rw [if_neg hf] at h
      exact ih _ F _ Q (h _) (hs.drawn _)
  | sys c k ih => intro F w Q h; exact h.elim
  | program k ih => intro F w Q h hs; exact ih _ F w Q h hs
  | mark m k ih => intro F w Q h hs; exact ih F w Q h hs
  | halt h => intro F w Q h; exact h.elim
end

theorem runs_bind {α β : Type} {P : Program} (s : Sem α) (f : α → Sem β) : ∀ (F : PH) (Q : β → PH → Prop),
    runs P (s.bind f) F Q ↔ runs P s F (fun a F' => runs P (f a) F' Q) := by
  induction s with
  | pure a => intro F Q; rfl
  | load m a k ih => intro F Q; simp only [Sem.bind, runs, ih]
  | store m a v k ih => intro F Q; simp only [Sem.bind, runs, ih]
  | new o k ih => intro F Q; simp only [Sem.bind, runs, ih]
  | shape r k ih => intro F Q; simp only [Sem.bind, runs, ih]
  | freeze a n k ih => intro F Q; simp only [Sem.bind, runs, ih]
  | frozen a k ih => intro F Q; simp only [Sem.bind, runs, ih]
  | getObj r k ih => intro F Q; simp only [Sem.bind, runs, ih]
  | setObj r o k ih => intro F Q; simp only [Sem.bind, runs, ih]
  | choose q k ih => intro F Q; simp only [Sem.bind, runs, ih]
  | sys c k ih => intro F Q; simp only [Sem.bind, runs]
  | program k ih => intro F Q; simp only [Sem.bind, runs, ih]
  | mark m k ih => intro F Q; simp only [Sem.bind, runs, ih]
  | halt h => intro F Q; simp only [Sem.bind, runs]

theorem runs_bind' {α β : Type} {P : Program} (s : Sem α) (f : α → Sem β) (F : PH) (Q : β → PH → Prop) :
    runs P (s >>= f) F Q ↔ runs P s F (fun a F' => runs P (f a) F' Q) := runs_bind s f F Q

theorem runs_mono {α : Type} {P : Program} (s : Sem α) : ∀ (F : PH) {Q Q' : α → PH → Prop}, runs P s F Q → (∀ a F, Q a F → Q' a F) → runs P s F Q' := by
  induction s with
  | pure a => intro F Q Q' h hq; exact hq _ _ h
  | load m a k ih => rintro F Q Q' ⟨v, h1, h⟩ hq; exact ⟨v, h1, ih v F h hq⟩
  | store m a v k ih => rintro F Q Q' ⟨h1, c, e, fr, h2, h3, h4, h5, h⟩ hq; exact ⟨h1, c, e, fr, h2, h3, h4, h5, ih _ h hq⟩
  | new o k ih => intro F Q Q' h hq b hb; exact ih _ _ (h b hb) hq
  | shape r k ih => rintro F Q Q' ⟨o, h1, h⟩ hq; exact ⟨o, h1, ih _ F h hq⟩
  | freeze a n k ih =>
    intro F Q Q' h hq
    unfold runs at h ⊢
    split at h
    · rename_i hn; rw [if_pos hn]; exact ih F h hq
    · rename_i hn; rw [if_neg hn]; obtain ⟨c, e, fr, h1, h⟩ := h; exact ⟨c, e, fr, h1, ih _ h hq⟩
  | frozen a k ih => rintro F Q Q' ⟨o, h1, h⟩ hq; exact ⟨o, h1, ih _ F h hq⟩
  | getObj r k ih => rintro F Q Q' ⟨o, h1, h2, h⟩ hq; exact ⟨o, h1, h2, ih _ F h hq⟩
  | setObj r o k ih => rintro F Q Q' ⟨o', h1, h2, h⟩ hq; exact ⟨o', h1, h2, ih _ h hq⟩
  | choose q k ih =>
    intro F Q Q' h hq
    unfold runs at h ⊢
    split at h
    · rename_i hn; rw [if_pos hn]; exact ih _ F h hq
    · rename_i hn; rw [if_neg hn]; exact fun t => ih _ F (h t) hq
  | sys c k ih => intro F Q Q' h; exact h.elim
  | program k ih => intro F Q Q' h hq; exact ih _ F h hq
  | mark m k ih => intro F Q Q' h hq; exact ih F h hq
  | halt h => intro F Q Q' h; exact h.elim
end Go.Proofs.YtnjcgpihfmklfaaDoor
