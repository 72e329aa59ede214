/-
  A program logic over partial heaps. Part 2: code, operations, regions in the text's order and in any order, loops, calls.
-/
import Derived.Test.YtnjcgpihfmklfaaDoorPha
import Derived.OrdersHeld
namespace Go.Proofs.YtnjcgpihfmklfaaDoor
open Go

/-- What the temporaries hold. -/
abbrev En := Nat → Value
def upd (E : En) (d : Nat) (v : Value) : En := fun t => bif Nat.beq t d then v else E t
def updO (E : En) : Option Tmp → Value → En
  | some d, v => upd E d v
  | none, _ => E
def ev (E : En) : Operand → Value
  | .tmp t => E t
  | .const v => v
  | .global g => .pointer (some ⟨g, 0, none⟩)
  | .func f => .func (.func f) #[] #[]
def enOf (args : List Value) : En := fun t => args.getD t undef

structure Ag (n : Nat) (a : Act) (E : En) : Prop where
  size : a.tmps.size = n
  defers : a.defers = []
  val : ∀ t, a.tmps.getD t undef = E t

theorem Ag.eval {n : Nat} {a : Act} {E : En} (h : Ag n a E) : a.eval = ev E := by
  funext x
  cases x with
  | tmp t => exact h.val t
  | _ => rfl

def dstOk (n : Nat) : Option Tmp → Bool
  | some d => Nat.blt d n
  | none => true

theorem beq_ne {i j : Nat} (h : ¬ i = j) : Nat.beq i j = false := by
  cases hb : Nat.beq i j with
  | false => rfl
  | true => exact absurd (Nat.eq_of_beq_eq_true hb) h

theorem Ag.put {n : Nat} {a : Act} {E : En} (h : Ag n a E) {d : Option Tmp} (v : Value) (hd : dstOk n d = true) : Ag n (a.put d v) (updO E d v) := by
  cases d with
  | none => exact h
  | some d =>
    have hlt : d < n := by simpa [dstOk, Nat.blt_eq] using hd
    refine ⟨by simp [Act.put, h.size], h.defers, fun t => ?_⟩
    simp only [Act.put, updO, upd]
    have hv := h.val t
    by_cases ht : t = d
    · subst ht
      simp [Array.getD_eq_getD_getElem?, h.size, hlt]
    · have : Nat.beq t d = false := beq_ne ht
      simp only [this, cond_false]
      rw [← hv]
      simp [Array.getD_eq_getD_getElem?, Array.getElem?_setIfInBounds_ne (Ne.symm ht)]

def QL (e : Ev) (n : Nat) (Q : Exit → En → PH → Prop) : Exit → Act → World → Prop := fun x a w => ∃ E F, Ag n a E ∧ Sat e w F ∧ Q x E F

/-- A call: in every world that holds F it returns, and what is then known is R. -/
def Spec (P : Program) (f : FuncId) (args : Array Value) (F : PH) (R : Value → PH → Prop) : Prop :=
  ∀ e w, Sat e w F → Calls P f args w fun en w' => ∃ v F', en = .returned v ∧ Sat e w' F' ∧ R v F'

/-- F and, beside it, H. -/
def PH.and (F H : PH) : PH := fun b => match F b with | some o => some o | none => H b
theorem PH.and_left {F H : PH} {b : Nat} {o : Obj} (h : F b = some o) : (F.and H) b = some o := by simp [PH.and, h]
theorem PH.and_right {F H : PH} {b : Nat} (h : F b = none) : (F.and H) b = H b := by simp [PH.and, h]
/-- THE FRAME: what lies beside what the call knows stays as it is. -/
theorem Spec.beside {P : Program} {f : FuncId} {args : Array Value} {F H : PH} {R : Value → PH → Prop} (h : Spec P f args F R) (hd : ∀ b o, H b = some o → F b = none) :
    Spec P f args (F.and H) fun v F' => ∃ G, R v G ∧ F' = G.and H ∧ ∀ b o, H b = some o → G b = none := by
  intro e w hs
  have hand : ∀ {F : PH} {b : Nat}, (F.and H) b = none → F b = none ∧ H b = none := fun {F b} hb => by
    unfold PH.and at hb
    split at hb
    · cases hb
    · rename_i hf
      exact ⟨hf, hb⟩
  refine (h ⟨e.os, e.tape, e.output, e.fr.and H⟩ w ⟨hs.os, hs.tape, hs.output, fun b o hb => hs.heap b o (PH.and_left hb), fun b o hb => ?_⟩).mono ?_
  · simp only [PH.and] at hb
    split at hb
    · rename_i o' ho'
      cases hb
      obtain ⟨h1, h2⟩ := hs.frame b _ ho'
      exact ⟨(hand h1).1, h2⟩
    · have hn := hd b o hb
      exact ⟨hn, hs.heap b o ((PH.and_right hn).trans hb)⟩
  · rintro en w' ⟨v, G, rfl, hg, hr⟩
    have hdis : ∀ b o, H b = some o → G b = none := fun b o hb => by
      have hx : ∃ o', (e.fr.and H) b = some o' := by
        cases hf : e.fr b with
        | none => exact ⟨o, (PH.and_right hf).trans hb⟩
        | some o' => exact ⟨o', PH.and_left hf⟩
      obtain ⟨o', ho'⟩ := hx
      exact (hg.frame b o' ho').1
    refine ⟨v, _, rfl, ⟨hg.os, hg.tape, hg.output, fun b o hb => ?_, fun b o hb => ?_⟩, G, hr, rfl, hdis⟩
    · cases hG : G b with
      | some o' =>
        rw [PH.and_left hG] at hb
        cases hb
        exact hg.heap b _ hG
      | none =>
        rw [PH.and_right hG] at hb
        have hfr : e.fr b = none := by
          cases hf : e.fr b with
          | none => rfl
          | some o' =>
            have := (hand (hs.frame b o' hf).1).2
            rw [hb] at this; cases this
        exact (hg.frame b o ((PH.and_right hfr).trans hb)).2
    · obtain ⟨h1, _⟩ := hs.frame b o hb
      have h3 := (hand h1).2
      obtain ⟨h4, h5⟩ := hg.frame b o (PH.and_left hb)
      exact ⟨by rw [PH.and_right h4]; exact h3, h5⟩

theorem Spec.mono {P : Program} {f : FuncId} {args : Array Value} {F : PH} {R R' : Value → PH → Prop} (h : Spec P f args F R) (hr : ∀ v F', R v F' → R' v F') :
    Spec P f args F R' := fun e w hs => (h e w hs).mono fun _ _ ⟨v, F', h1, h2, h3⟩ => ⟨v, F', h1, h2, hr v F' h3⟩

def HC (P : Program) (n : Nat) (c : Code) (Q : Exit → En → PH → Prop) (E : En) (F : PH) : Prop :=
  ∀ e a w, Ag n a E → Sat e w F → c.wp P (QL e n Q) a w
def HL (P : Program) (n : Nat) (ops : Array Oper) (Q : Exit → En → PH → Prop) (l : List Oper) (E : En) (F : PH) : Prop :=
  ∀ e a w, Ag n a E → Sat e w F → wpList P ops (QL e n Q) l a w

abbrev thenQ (K : En → PH → Prop) (Q : Exit → En → PH → Prop) : Exit → En → PH → Prop
  | .normal, E, F => K E F
  | x, E, F => Q x E F
abbrev blockQ (id : Nat) (Q : Exit → En → PH → Prop) : Exit → En → PH → Prop
  | .exit i, E, F => bif Nat.beq i id then Q .normal E F else Q (.exit i) E F
  | x, E, F => Q x E F

section
variable {P : Program} {n : Nat} {Q : Exit → En → PH → Prop} {E : En} {F : PH}

theorem HC_skip (h : Q .normal E F) : HC P n .skip Q E F := fun _ _ _ ag st => wp_skip ⟨E, F, ag, st, h⟩
theorem HC_ret (h : Q .ret E F) : HC P n .ret Q E F := fun _ _ _ ag st => wp_ret ⟨E, F, ag, st, h⟩
theorem HC_exit {id : Nat} (h : Q (.exit id) E F) : HC P n (.exit id) Q E F := fun _ _ _ ag st => wp_exit ⟨E, F, ag, st, h⟩
theorem HC_seq {x y : Code} (h : HC P n x (thenQ (HC P n y Q) Q) E F) : HC P n (.seq x y) Q E F := fun e a w ag st =>
  wp_seq (wp_mono (h e a w ag st) fun ex a' w' ⟨E', F', ag', st', q⟩ => by
    cases ex with
    | normal => exact q e a' w' ag' st'
    | _ => exact ⟨E', F', ag', st', q⟩)
theorem HC_cond {c : Operand} {x y : Code} {t : Bool} (hc : ev E c = .bool t) (h1 : t = true → HC P n x Q E F) (h2 : t = false → HC P n y Q E F) :
    HC P n (.cond c x y) Q E F := fun e a w ag st =>
  wp_cond_split (by rw [ag.eval]; exact hc) (fun ht => h1 ht e a w ag st) (fun ht => h2 ht e a w ag st)
theorem HC_block {id : Nat} {c : Code} (h : HC P n c (blockQ id Q) E F) : HC P n (.block id c) Q E F := fun e a w ag st =>
  wp_block (wp_mono (h e a w ag st) fun ex a' w' ⟨E', F', ag', st', q⟩ => by
    cases ex with
    | exit i =>
      simp only [Exit.inBlock, blockQ] at q ⊢
      by_cases hi : i = id
      · subst hi
        have : Nat.beq i i = true := by simp
        simp only [this, cond_true] at q
        rw [if_pos rfl]
        exact ⟨E', F', ag', st', q⟩
      · have : Nat.beq i id = false := beq_ne hi
        simp only [this, cond_false] at q
        rw [if_neg hi]
        exact ⟨E', F', ag', st', q⟩
    | _ => exact ⟨E', F', ag', st', q⟩)

theorem HC_loop {c : Code} (I : Nat → En → PH → Prop) (m0 : Nat) (h0 : I m0 E F)
    (round : ∀ m E F, I m E F → HC P n c (thenQ (fun E' F' => ∃ m', m' < m ∧ I m' E' F') Q) E F) : HC P n (.loop c) Q E F := by
  intro e a w ag st b k cs
  have key : ∀ m a w E F, Ag n a E → Sat e w F → I m E F →
      ∃ ex a' w', QL e n Q ex a' w' ∧ Arrives P (lone (b.at a (.code c :: .inLoop c :: k)) cs w) b k cs ex a' w' := by
    intro m
    induction m using Nat.strongRecOn with
    | _ m ih =>
      intro a w E F ag st hI
      obtain ⟨ex, a₁, w₁, hq, harr⟩ := round m E F hI e a w ag st b (.inLoop c :: k) cs
      cases ex with
      | normal =>
        obtain ⟨E', F', ag', st', m', hlt, hI'⟩ := hq
        obtain ⟨e₂, a₂, w₂, hq₂, harr₂⟩ := ih m' hlt a₁ w₁ E' F' ag' st' hI'
        exact ⟨e₂, a₂, w₂, hq₂, .of_steps (Steps.trans harr (.one step_inLoop)) harr₂⟩
      | exit id => exact ⟨_, a₁, w₁, hq, .pass (x := .inLoop c) rfl (fun _ _ => .inl (by simp)) harr⟩
      | goto l => exact ⟨_, a₁, w₁, hq, .pass (x := .inLoop c) rfl (fun _ _ => .inl (by simp)) harr⟩
      | ret => exact ⟨_, a₁, w₁, hq, .pass (x := .inLoop c) rfl (fun _ _ => .inl (by simp)) harr⟩
      | panic ch => exact ⟨_, a₁, w₁, hq, .pass (x := .inLoop c) rfl (fun _ _ => .inl (by simp)) harr⟩
      | outgrown => exact ⟨_, a₁, w₁, hq, .pass (x := .inLoop c) rfl (fun _ _ => .inl (by simp)) harr⟩
  obtain ⟨ex, a', w', hq, harr⟩ := key m0 a w E F ag st h0
  exact ⟨ex, a', w', hq, .of_steps (.one step_loop) harr⟩

theorem HC_region {id : Nat} {l : List Oper} (h : HL P n l.toArray Q l E F) : HC P n (.region id l.toArray false) Q E F := fun e a w ag st =>
  wp_region_lit (h e a w ag st)

/-- What an operation's outcome leaves to do. -/
def stepK (P : Program) (K : En → PH → Prop) (o : Oper) (E : En) : Next → PH → Prop
  | .value v, F => K (updO E o.dst v) F
  | .skip, F => K (updO E o.dst undef) F
  | .enter f args, F => Spec P f args F fun v F' => K (updO E o.dst v) F'
  | _, _ => False

theorem op_wp {o : Oper} {e : Ev} {a : Act} {w : World} {K : En → PH → Prop} {K' : Act → World → Prop} {Q' : Exit → Act → World → Prop} (ag : Ag n a E) (st : Sat e w F) (hd : dstOk n o.dst = true)
    (hk : ∀ a w E F, Ag n a E → Sat e w F → K E F → K' a w)
    (h : runs P (execOp (ev E) o) F (stepK P K o E)) : o.wp P a w K' Q' := by
  obtain ⟨nx, w', F', hr, st', hq⟩ := runs_sound _ F w _ h st
  unfold Oper.wp
  rw [ag.eval, hr]
  cases nx with
  | value v => exact hk _ _ _ _ (ag.put v hd) st' hq
  | skip => exact hk _ _ _ _ (ag.put undef hd) st' hq
  | enter f args =>
    refine (hq e w' st').mono ?_
    rintro _ w'' ⟨v, F'', rfl, st'', hK⟩
    exact hk _ _ _ _ (ag.put v hd) st'' hK
  | _ => exact hq.elim

def yE (ops : Array Oper) (E : En) (j : Nat) : Option Bool :=
  match (ops[j]?).bind (·.dst) with
  | some t => (match E t with | .bool b => some b | _ => none)
  | none => none

theorem Ag.yE_eq {a : Act} (h : Ag n a E) (ops : Array Oper) (j : Nat) : yielded ops a.tmps j = yE ops E j := by
  unfold yielded yE
  cases (ops[j]?).bind (·.dst) with
  | none => rfl
  | some t =>
    have hv := h.val t
    simp only [Option.bind_some]
    rw [← hv, Array.getD_eq_getD_getElem?]
    cases a.tmps[t]? with
    | none => rfl
    | some v => cases v <;> rfl

theorem Ag.wanted_eq {a : Act} (h : Ag n a E) (ops : Array Oper) (o : Oper) : Region.wanted o (yielded ops a.tmps) = Region.wanted o (yE ops E) := by
  unfold Region.wanted
  cases o.guard with
  | none => rfl
  | some g => simp only [h.yE_eq]

theorem HL_nil {ops : Array Oper} (h : Q .normal E F) : HL P n ops Q [] E F := fun _ _ _ ag st => wpList_nil ⟨E, F, ag, st, h⟩
theorem HL_op {ops : Array Oper} {o : Oper} {l : List Oper} (hw : Region.wanted o (yE ops E) = true) (hd : dstOk n o.dst = true)
    (h : runs P (execOp (ev E) o) F (stepK P (HL P n ops Q l) o E)) : HL P n ops Q (o :: l) E F := fun e a w ag st => by
  unfold wpList
  rw [ag.wanted_eq, if_pos hw]
  exact .inl (op_wp ag st hd (fun a w E F ag st hk => hk e a w ag st) h)
theorem HL_skip {ops : Array Oper} {o : Oper} {l : List Oper} (hw : Region.wanted o (yE ops E) = false) (hd : dstOk n o.dst = true)
    (h : HL P n ops Q l (updO E o.dst undef) F) : HL P n ops Q (o :: l) E F := fun e a w ag st => by
  unfold wpList
  rw [ag.wanted_eq, if_neg (by simp [hw])]
  exact h e _ _ (ag.put undef hd) st

/-- The end of a function. -/
def resOk (P : Program) (fn : Func) (E : En) (F : PH) (v : Value) : Prop :=
  ∀ e w tmps, Sat e w F → (∀ t : Nat, Array.getD tmps t undef = E t) → (results fn tmps).run P w = .ok v w
abbrev endQ (P : Program) (fn : Func) (R : Value → PH → Prop) : Exit → En → PH → Prop
  | .normal, E, F | .ret, E, F => ∃ v, resOk P fn E F v ∧ R v F
  | _, _, _ => False

theorem spec_of {f : FuncId} {fn : Func} {c : Code} {args : List Value} {R : Value → PH → Prop} (hf : P.funcs[f]? = some fn) (hb : fn.body = some c)
    (hn : fn.ntmps = n) (hs : Nat.ble args.length n = true) (h : HC P n c (endQ P fn R) (enOf args) F) : Spec P f args.toArray F R := fun e w st => by
  have hs' : args.length ≤ n := by simpa [Nat.ble_eq] using hs
  refine calls_of_wp hf hb ?_
  refine wp_mono (h e _ w ⟨?_, rfl, fun t => ?_⟩ st) ?_
  · simp [hn]; omega
  · simp only [enOf, Array.getD_eq_getD_getElem?, List.getD_eq_getElem?_getD, Array.getElem?_append, List.size_toArray, Array.getElem?_replicate]
    by_cases ht : t < args.length
    · simp [ht]
    · simp only [ht, if_false]
      rw [List.getElem?_eq_none (by omega)]
      split <;> rfl
  · rintro ex a' w' ⟨E', F', ag', st', q⟩
    cases ex with
    | normal => obtain ⟨v, hr, hR⟩ := q; exact ⟨ag'.defers, v, hr e w' _ st' ag'.val, v, F', rfl, st', hR⟩
    | ret => obtain ⟨v, hr, hR⟩ := q; exact ⟨ag'.defers, v, hr e w' _ st' ag'.val, v, F', rfl, st', hR⟩
    | _ => exact q.elim
end

/-! A region whose order is drawn: reads may be taken first, as long as what they read stays. -/
section
variable {P : Program} {ops : Array Oper} {md : Region.Mode}

def Oper.waits (md : Region.Mode) (o : Oper) (r : Nat) : Bool := o.after.toList.any fun e => Region.binds md e && e.on == r

theorem waits_spec {o : Oper} {r : Nat} : Oper.waits md o r = false ↔ ∀ e ∈ o.after, Region.binds md e = true → e.on ≠ r := by
  unfold Oper.waits
  rw [← Bool.not_eq_true, List.any_eq_true]
  constructor
  · intro h x hx hb heq
    exact h ⟨x, by simpa using hx, by simp [hb, heq]⟩
  · rintro h ⟨x, hx, hp⟩
    simp only [Bool.and_eq_true, beq_iff_eq] at hp
    exact h x (by simpa using hx) hp.1 hp.2

abbrev Pend := List (Nat × (World → Prop))
def Pend.hold (Sp : Pend) (w : World) : Prop := ∀ r ∈ Sp, r.2 w
def Pend.rest (md : Region.Mode) (o : Oper) (Sp : Pend) : Pend := Sp.filter fun r => !Oper.waits md o r.1

def wpAnyP (P : Program) (md : Region.Mode) (ops : Array Oper) (Q : Exit → Act → World → Prop) : Nat → Array Bool → Pend → Act → World → Prop
  | 0, listed, _, a, w => Region.ready md ops listed = [] ∧ Q .normal a w
  | fuel + 1, listed, Sp, a, w =>
    (Region.ready md ops listed = [] → Q .normal a w) ∧
    ∀ i ∈ Region.ready md ops listed, ∀ o, ops[i]? = some o →
      wpOp P ops Q i (fun a' w' => (Sp.rest md o).hold w' ∧ wpAnyP P md ops Q fuel (listed.setIfInBounds i true) (Sp.rest md o) a' w') a w

variable {Q : Exit → Act → World → Prop}

theorem wpAny_of_P : ∀ (fuel : Nat) (listed : Array Bool) (Sp : Pend) (a : Act) (w : World), wpAnyP P md ops Q fuel listed Sp a w → wpAny P md ops Q fuel listed a w
  | 0, _, _, _, _, h => h
  | fuel + 1, _, _, _, _, h => ⟨h.1, fun i hi => by
      obtain ⟨_, o, ho, _⟩ := mem_ready.1 hi
      exact wpOp_mono (fun a' w' h' => wpAny_of_P fuel _ _ a' w' h'.2) (h.2 i hi o ho)⟩

theorem Pend.rest_sub {o : Oper} {Sp Sp' : Pend} (h : ∀ r ∈ Sp', r ∈ Sp) : ∀ r ∈ Pend.rest md o Sp', r ∈ Pend.rest md o Sp := by
  intro r hr
  unfold Pend.rest at *
  rw [List.mem_filter] at *
  exact ⟨h r hr.1, hr.2⟩

theorem wpAnyP_sub : ∀ (fuel : Nat) (listed : Array Bool) (Sp Sp' : Pend) (a : Act) (w : World), (∀ r ∈ Sp', r ∈ Sp) → wpAnyP P md ops Q fuel listed Sp a w →
    wpAnyP P md ops Q fuel listed Sp' a w
  | 0, _, _, _, _, _, _, h => h
  | fuel + 1, _, _, _, _, _, hs, h => ⟨h.1, fun i hi o ho => wpOp_mono (fun a' w' h' => ⟨fun r hr => h'.1 r (Pend.rest_sub hs r hr), wpAnyP_sub fuel _ _ _ a' w' (Pend.rest_sub hs) h'.2⟩) (h.2 i hi o ho)⟩

theorem wpAnyP_first {S : World → Prop} {i : Nat} {oi : Oper} {v : Value} (hi : ops[i]? = some oi) (hsel : ∀ (j : Nat) (o : Oper) cs b, ops[j]? = some o → o.op ≠ .select cs b)
    (hQ : ∀ c a w, Q (.panic c) (a.put oi.dst v) w → Q (.panic c) a w) :
    ∀ (fuel : Nat) (listed : Array Bool) (Sp : Pend) (a : Act) (w : World),
      (∀ j oj, ops[j]? = some oj → j ≠ i → listed.getD j true = false → (∀ e ∈ oj.after, Region.binds md e = true → e.on ≠ i) → oi.apart ops oj = true) →
      i ∈ Region.ready md ops listed → YieldsIf P ops S oi v a → S w → Sp.hold w →
      wpAnyP P md ops Q fuel (listed.setIfInBounds i true) ((i, S) :: Sp) (a.put oi.dst v) w → wpAnyP P md ops Q (fuel + 1) listed Sp a w := by
  intro fuel
  induction fuel with
  | zero =>
    intro listed Sp a w _ hr hy hS hh H
    refine ⟨fun h => (by rw [h] at hr; cases hr), fun j hj oj hoj => ?_⟩
    by_cases hji : j = i
    · subst hji
      exact hy.wpOp hi hS ⟨fun r hr' => hh r (List.mem_filter.1 hr').1, H⟩
    · have := ready_mono hj hji
      rw [H.1] at this
      cases this
  | succ fuel ih =>
    intro listed Sp a w hfree hr hy hS hh H
    refine ⟨fun h => (by rw [h] at hr; cases hr), fun j hj oj hoj => ?_⟩
    by_cases hji : j = i
    · subst hji
      refine hy.wpOp hi hS ⟨fun r hr' => hh r (List.mem_filter.1 hr').1, ?_⟩
      exact wpAnyP_sub (fuel + 1) _ _ _ _ _ (fun r hr' => List.mem_cons_of_mem _ (List.mem_filter.1 hr').1) H
    · have h1 := H.2 j (ready_mono hj hji) oj hoj
      obtain ⟨hjun, oj', hoj', hall⟩ := mem_ready.1 hj
      obtain rfl : oj' = oj := by rw [hoj] at hoj'; exact (Option.some.inj hoj').symm
      have hnot : ∀ e ∈ oj'.after, Region.binds md e = true → e.on ≠ i := fun e he hb heq => by
        have h1 := hall e he hb
        have h0 := (mem_ready.1 hr).1
        rw [heq] at h1
        rcases Nat.lt_or_ge i listed.size with h' | h'
        · simp [h'] at h0 h1; rw [h0] at h1; cases h1
        · simp [Array.getElem?_eq_none h'] at h1
      have hw : Oper.waits md oj' i = false := waits_spec.2 hnot
      have hrest : Pend.rest md oj' ((i, S) :: Sp) = (i, S) :: Pend.rest md oj' Sp := by
        unfold Pend.rest
        rw [List.filter_cons_of_pos (by simp [hw])]
      rw [hrest] at h1
      have h2 := wpOp_putIf hoj (hfree j oj' hoj hji hjun hnot) (fun cs b => hsel i oi cs b hi) (fun cs b => hsel j oj' cs b hoj) hQ hy h1
      have hfree' : ∀ k ok, ops[k]? = some ok → k ≠ i → (listed.setIfInBounds j true).getD k true = false →
          (∀ e ∈ ok.after, Region.binds md e = true → e.on ≠ i) → oi.apart ops ok = true := fun k ok hk hki hun hno => by
        refine hfree k ok hk hki ?_ hno
        by_cases hjk : j = k
        · subst hjk; exact hjun
        · rw [getD_set_ne true hjk] at hun; exact hun
      refine wpOp_mono (fun a' w' h3 => ?_) h2
      obtain ⟨hy', hhold, h3⟩ := h3
      refine ⟨fun r hr' => hhold r (List.mem_cons_of_mem _ hr'), ?_⟩
      refine ih (listed.setIfInBounds j true) _ a' w' hfree' (ready_mono hr (Ne.symm hji)) hy' (hhold _ (List.mem_cons_self ..)) (fun r hr' => hhold r (List.mem_cons_of_mem _ hr')) ?_
      rw [Array.setIfInBounds_comm _ _ hji]
      exact h3
end

section
variable {P : Program} {n : Nat} {Q : Exit → En → PH → Prop} {E : En} {F : PH} {ops : Array Oper}

/-- What holds of every world that holds F. -/
def allW (F : PH) (S : World → Prop) : Prop := ∀ e w, Sat e w F → S w
def holdF (Sp : Pend) (F : PH) : Prop := ∀ r ∈ Sp, allW F r.2

/-- Whatever order comes up from here on. -/
def RG (P : Program) (n : Nat) (ops : Array Oper) (Q : Exit → En → PH → Prop) (fuel : Nat) (listed : Array Bool) (Sp : Pend) (E : En) (F : PH) : Prop :=
  ∀ e a w, Ag n a E → Sat e w F → wpAnyP P .any ops (QL e n Q) fuel listed Sp a w

theorem HC_draw {id : Nat} (hm : P.follows .mixedOrders = true) (h : RG P n ops Q ops.size (Array.replicate ops.size false) [] E F) :
    HC P n (.region id ops true) Q E F := fun e a w ag st =>
  wp_region_any hm (wpAny_of_P _ _ _ _ _ (h e a _ ag (st.drawn _)))

theorem RG_done {fuel : Nat} {listed : Array Bool} {Sp : Pend} (hr : Region.ready .any ops listed = []) (h : Q .normal E F) : RG P n ops Q fuel listed Sp E F :=
  fun e a w ag st => by
    cases fuel with
    | zero => exact ⟨hr, E, F, ag, st, h⟩
    | succ fuel => exact ⟨fun _ => ⟨E, F, ag, st, h⟩, by rw [hr]; simp⟩

/-- What an operation yields in every world of S, leaving it as it is. -/
def Takes (P : Program) (S : World → Prop) (E : En) (o : Oper) (v : Value) : Prop := ∀ w, S w → (execOp (ev E) o).run P w = .ok (.value v) w

theorem RG_read {S : World → Prop} {i : Nat} {oi : Oper} {v : Value} {fuel : Nat} {listed : Array Bool} {Sp : Pend} (hi : ops[i]? = some oi)
    (hs : Region.noSelect ops = true) (hf : Region.free .any ops listed i = true) (hr : (Region.ready .any ops listed).contains i = true) (hd : dstOk n oi.dst = true)
    (hp : ∀ c E F, ¬ Q (.panic c) E F) (hw : Region.wanted oi (yE ops E) = true) (hy : Takes P S E oi v) (hS : allW F S) (hh : holdF Sp F)
    (h : RG P n ops Q fuel (listed.setIfInBounds i true) ((i, S) :: Sp) (updO E oi.dst v) F) : RG P n ops Q (fuel + 1) listed Sp E F := fun e a w ag st =>
  wpAnyP_first hi (Region.noSelect_spec hs) (fun c a w ⟨E, F, _, _, q⟩ => (hp c E F q).elim) fuel listed Sp a w (Region.free_spec hi hf) (by simpa using hr)
    (.inl ⟨by rw [ag.wanted_eq]; exact hw, fun w hw' => by rw [ag.eval]; exact hy w hw'⟩) (hS e w st) (fun r hr => hh r hr e w st) (h e _ w (ag.put v hd) st)

theorem wpAnyP_true {Q : Exit → Act → World → Prop} {md : Region.Mode} (i : Nat) : ∀ (fuel : Nat) (listed : Array Bool) (Sp : Pend) (a : Act) (w : World), wpAnyP P md ops Q fuel listed Sp a w →
    wpAnyP P md ops Q fuel listed ((i, fun _ => True) :: Sp) a w
  | 0, _, _, _, _, h => h
  | fuel + 1, _, Sp, _, _, h => ⟨h.1, fun j hj o ho => wpOp_mono (fun a' w' h' => by
      by_cases hw : Oper.waits md o i = true
      · have : Pend.rest md o ((i, fun _ => True) :: Sp) = Pend.rest md o Sp := by
          unfold Pend.rest; rw [List.filter_cons_of_neg (by simp [hw])]
        rw [this]
        exact h'
      · have : Pend.rest md o ((i, fun _ => True) :: Sp) = (i, fun _ => True) :: Pend.rest md o Sp := by
          unfold Pend.rest; rw [List.filter_cons_of_pos (by simpa using hw)]
        rw [this]
        refine ⟨fun r hr => ?_, wpAnyP_true i fuel _ _ a' w' h'.2⟩
        rcases List.mem_cons.1 hr with rfl | hr
        · trivial
        · exact h'.1 r hr) (h.2 j hj o ho)⟩

theorem RG_pure {i : Nat} {oi : Oper} {v : Value} {fuel : Nat} {listed : Array Bool} {Sp : Pend} (hi : ops[i]? = some oi)
    (hs : Region.noSelect ops = true) (hf : Region.free .any ops listed i = true) (hr : (Region.ready .any ops listed).contains i = true) (hd : dstOk n oi.dst = true)
    (hp : ∀ c E F, ¬ Q (.panic c) E F) (hw : Region.wanted oi (yE ops E) = true) (hy : Takes P (fun _ => True) E oi v) (hh : holdF Sp F)
    (h : RG P n ops Q fuel (listed.setIfInBounds i true) Sp (updO E oi.dst v) F) : RG P n ops Q (fuel + 1) listed Sp E F :=
  RG_read (S := fun _ => True) hi hs hf hr hd hp hw hy (fun _ _ _ => trivial) hh fun e a w ag st => wpAnyP_true i _ _ _ _ _ (h e a w ag st)

theorem RG_skip {i : Nat} {oi : Oper} {fuel : Nat} {listed : Array Bool} {Sp : Pend} (hi : ops[i]? = some oi)
    (hs : Region.noSelect ops = true) (hf : Region.free .any ops listed i = true) (hr : (Region.ready .any ops listed).contains i = true) (hd : dstOk n oi.dst = true)
    (hp : ∀ c E F, ¬ Q (.panic c) E F) (hw : Region.wanted oi (yE ops E) = false) (hh : holdF Sp F)
    (h : RG P n ops Q fuel (listed.setIfInBounds i true) Sp (updO E oi.dst undef) F) : RG P n ops Q (fuel + 1) listed Sp E F := fun e a w ag st =>
  wpAnyP_first (S := fun _ => True) hi (Region.noSelect_spec hs) (fun c a w ⟨E, F, _, _, q⟩ => (hp c E F q).elim) fuel listed Sp a w (Region.free_spec hi hf) (by simpa using hr)
    (.inr ⟨by rw [ag.wanted_eq]; exact hw, rfl⟩) trivial (fun r hr => hh r hr e w st) (wpAnyP_true i _ _ _ _ _ (h e _ w (ag.put undef hd) st))

/-- One operation that comes up. -/
def RGop (P : Program) (n : Nat) (ops : Array Oper) (Q : Exit → En → PH → Prop) (fuel : Nat) (listed : Array Bool) (Sp : Pend) (E : En) (F : PH) (i : Nat) : Prop :=
  ∃ o, ops[i]? = some o ∧ dstOk n o.dst = true ∧ Region.wanted o (yE ops E) = true ∧
    runs P (execOp (ev E) o) F (stepK P (fun E' F' => holdF (Sp.rest .any o) F' ∧ RG P n ops Q fuel (listed.setIfInBounds i true) (Sp.rest .any o) E' F') o E)

theorem RG_eff {fuel : Nat} {listed : Array Bool} {Sp : Pend} {rs : List Nat} (hr : Region.ready .any ops listed = rs) (hne : rs.isEmpty = false)
    (h : ∀ i ∈ rs, RGop P n ops Q fuel listed Sp E F i) : RG P n ops Q (fuel + 1) listed Sp E F := fun e a w ag st => by
  subst hr
  refine ⟨fun h0 => (by rw [h0] at hne; cases hne), fun i hi o ho => ?_⟩
  obtain ⟨o', ho', hd, hw, hrun⟩ := h i hi
  obtain rfl : o' = o := by rw [ho] at ho'; exact (Option.some.inj ho').symm
  unfold wpOp
  simp only [ho]
  rw [ag.wanted_eq, if_pos hw]
  exact .inl (op_wp ag st hd (fun a w E F ag st hk => ⟨fun r hr => hk.1 r hr e w st, hk.2 e a w ag st⟩) hrun)

theorem RG_eff1 {fuel : Nat} {listed : Array Bool} {Sp : Pend} {i : Nat} (hr : Region.ready .any ops listed = [i]) (h : RGop P n ops Q fuel listed Sp E F i) :
    RG P n ops Q (fuel + 1) listed Sp E F := RG_eff hr rfl fun j hj => by
  rw [List.mem_singleton] at hj
  subst hj
  exact h
end
end Go.Proofs.YtnjcgpihfmklfaaDoor
