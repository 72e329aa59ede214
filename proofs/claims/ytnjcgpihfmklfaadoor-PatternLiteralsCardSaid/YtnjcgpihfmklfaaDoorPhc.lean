/-
  A program logic over partial heaps. Part 3: what the single operations do. Operations that read at most (RD), operations that write or make memory.
-/
import Derived.Test.YtnjcgpihfmklfaaDoorPhb
namespace Go.Proofs.YtnjcgpihfmklfaaDoor
open Go

/-- A piece of semantics that at most reads: its value. -/
def rdo {α : Type} (P : Program) : Sem α → PH → α → Prop
  | .pure a, _, v => a = v
  | .load _ a k, F, v => ∃ x, F.cell a = some x ∧ rdo P (k x) F v
  | .shape r k, F, v => ∃ o, F r = some o ∧ rdo P (k (shapeOf o)) F v
  | .frozen a k, F, v => ∃ o, F a.block = some o ∧ rdo P (k (frzOf o a.off)) F v
  | .getObj r k, F, v => ∃ o, F r = some o ∧ (∀ c e fr, o ≠ .cells c e fr) ∧ rdo P (k o) F v
  | .program k, F, v => rdo P (k P) F v
  | .mark _ k, F, v => rdo P k F v
  | _, _, _ => False

theorem rdo_run {α : Type} {P : Program} {e : Ev} (s : Sem α) : ∀ (F : PH) (w : World) (v : α), rdo P s F v → Sat e w F → s.run P w = .ok v w := by
  induction s with
  | pure a => intro F w v h _; exact congrArg (fun x => Result.ok x w) h
  | load m a k ih =>
    rintro F w v ⟨x, hc, h⟩ hs
    simp only [Sem.run, hs.cell hc]
    exact ih x F w v h hs
  | shape r k ih =>
    rintro F w v ⟨o, hb, h⟩ hs
    have hheap := hs.heap _ _ hb
    have : w.shape? r = shapeOf o := by
      unfold World.shape?
      rw [hheap]
      cases o <;> simp [shapeOf]
    simp only [Sem.run, this]
    exact ih _ F w v h hs
  | frozen a k ih =>
    rintro F w v ⟨o, hb, h⟩ hs
    have hheap := hs.heap _ _ hb
    have : w.frozen? a = frzOf o a.off := by
      unfold World.frozen?
      rw [hheap]
      cases o <;> simp [frzOf, frz]
    simp only [Sem.run, this]
    exact ih _ F w v h hs
  | getObj r k ih =>
    rintro F w v ⟨o, hb, hn, h⟩ hs
    have hheap := hs.heap _ _ hb
    have : (Sem.getObj r k).run P w = (k o).run P w := by
      cases o <;> first | exact absurd rfl (hn _ _ _) | simp only [Sem.run, hheap]
    rw [this]
    exact ih _ F w v h hs
  | program k ih => intro F w v h hs; exact ih _ F w v h hs
  | mark m k ih => intro F w v h hs; exact ih F w v h hs
  | _ => intro F w v h; exact h.elim

theorem rdo_runs {α : Type} {P : Program} (s : Sem α) : ∀ (F : PH) (v : α) (Q : α → PH → Prop), rdo P s F v → Q v F → runs P s F Q := by
  induction s with
  | pure a => intro F v Q h hq; cases h; exact hq
  | load m a k ih => rintro F v Q ⟨x, hc, h⟩ hq; exact ⟨x, hc, ih x F v Q h hq⟩
  | shape r k ih => rintro F v Q ⟨o, hb, h⟩ hq; exact ⟨o, hb, ih _ F v Q h hq⟩
  | frozen a k ih => rintro F v Q ⟨o, hb, h⟩ hq; exact ⟨o, hb, ih _ F v Q h hq⟩
  | getObj r k ih => rintro F v Q ⟨o, hb, hn, h⟩ hq; exact ⟨o, hb, hn, ih _ F v Q h hq⟩
  | program k ih => intro F v Q h hq; exact ih _ F v Q h hq
  | mark m k ih => intro F v Q h hq; exact ih F v Q h hq
  | _ => intro F v Q h; exact h.elim

theorem rdo_bind {α β : Type} {P : Program} (s : Sem α) (f : α → Sem β) : ∀ (F : PH) (v : β), rdo P (s >>= f) F v ↔ ∃ a, rdo P s F a ∧ rdo P (f a) F v := by
  show ∀ (F : PH) (v : β), rdo P (s.bind f) F v ↔ _
  induction s with
  | pure a =>
    intro F v
    simp only [Sem.bind, rdo]
    exact ⟨fun h => ⟨a, rfl, h⟩, by rintro ⟨_, rfl, h⟩; exact h⟩
  | load m a k ih =>
    intro F v
    simp only [Sem.bind, rdo, ih]
    exact ⟨fun ⟨x, hc, a, h1, h2⟩ => ⟨a, ⟨x, hc, h1⟩, h2⟩, fun ⟨a, ⟨x, hc, h1⟩, h2⟩ => ⟨x, hc, a, h1, h2⟩⟩
  | shape r k ih =>
    intro F v
    simp only [Sem.bind, rdo, ih]
    exact ⟨fun ⟨x, hc, a, h1, h2⟩ => ⟨a, ⟨x, hc, h1⟩, h2⟩, fun ⟨a, ⟨x, hc, h1⟩, h2⟩ => ⟨x, hc, a, h1, h2⟩⟩
  | frozen a k ih =>
    intro F v
    simp only [Sem.bind, rdo, ih]
    exact ⟨fun ⟨x, hc, a, h1, h2⟩ => ⟨a, ⟨x, hc, h1⟩, h2⟩, fun ⟨a, ⟨x, hc, h1⟩, h2⟩ => ⟨x, hc, a, h1, h2⟩⟩
  | getObj r k ih =>
    intro F v
    simp only [Sem.bind, rdo, ih]
    exact ⟨fun ⟨x, hc, hn, a, h1, h2⟩ => ⟨a, ⟨x, hc, hn, h1⟩, h2⟩, fun ⟨a, ⟨x, hc, hn, h1⟩, h2⟩ => ⟨x, hc, hn, a, h1, h2⟩⟩
  | program k ih => intro F v; simp only [Sem.bind, rdo, ih]
  | mark m k ih => intro F v; simp only [Sem.bind, rdo, ih]
  | _ => intro F v; simp [Sem.bind, rdo]

@[simp] theorem rdo_pure {α : Type} {P : Program} (a v : α) (F : PH) : rdo P (pure a : Sem α) F v ↔ a = v := Iff.rfl
@[simp] theorem runs_pure {α : Type} {P : Program} (a : α) (F : PH) (Q : α → PH → Prop) : runs P (pure a : Sem α) F Q ↔ Q a F := Iff.rfl

@[simp] theorem rdo_map {α β : Type} {P : Program} (f : α → β) (s : Sem α) (F : PH) (v : β) : rdo P (f <$> s) F v ↔ ∃ a, rdo P s F a ∧ f a = v := rdo_bind s (fun a => pure (f a)) F v
@[simp] theorem runs_map {α β : Type} {P : Program} (f : α → β) (s : Sem α) (F : PH) (Q : β → PH → Prop) : runs P (f <$> s) F Q ↔ runs P s F (fun a F' => Q (f a) F') := runs_bind s (fun a => pure (f a)) F Q

/-- What is known of a type: its cells and its bytes. -/
def tsz (P : Program) (t : TypeId) : Option (Nat × Nat) := (P.info? t).map fun i => (i.size, i.bytes)
def tzero (P : Program) (t : TypeId) : Option Value := (P.info? t).bind (·.zero)

theorem tsz_info {P : Program} {t s b : Nat} (h : tsz P t = some (s, b)) : ∃ i, P.info? t = some i ∧ i.size = s ∧ i.bytes = b := by
  unfold tsz at h
  cases hi : P.info? t with
  | none => simp [hi] at h
  | some i => simp [hi] at h; exact ⟨i, rfl, h.1, h.2⟩
theorem tzero_info {P : Program} {t : Nat} {z : Value} (h : tzero P t = some z) : ∃ i, P.info? t = some i ∧ i.zero = some z := by
  unfold tzero at h
  cases hi : P.info? t with
  | none => simp [hi] at h
  | some i => simp [hi] at h; exact ⟨i, rfl, h⟩

section
variable {P : Program} {F : PH}
theorem rdo_sizeOf {t s b : Nat} (h : tsz P t = some (s, b)) (v : Nat) : rdo P (sizeOf t) F v ↔ s = v := by
  obtain ⟨i, h1, h2, h3⟩ := tsz_info h
  unfold sizeOf typeInfo program
  simp only [rdo_bind]
  constructor
  · rintro ⟨i', ⟨p, hp, h⟩, h'⟩
    simp only [rdo] at hp
    subst hp
    rw [h1] at h
    simp only [rdo_pure] at h h'
    subst h
    rw [← h2]; exact h'
  · rintro rfl
    refine ⟨i, ⟨P, rfl, ?_⟩, ?_⟩
    · rw [h1]; rfl
    · rw [← h2]; rfl
theorem runs_sizeOf {t s b : Nat} (h : tsz P t = some (s, b)) (Q : Nat → PH → Prop) : runs P (sizeOf t) F Q ↔ Q s F := by
  obtain ⟨i, h1, h2, h3⟩ := tsz_info h
  unfold sizeOf typeInfo program
  simp only [runs_bind', runs, h1, runs_pure, h2]
theorem runs_typeInfo_bytes {t s b : Nat} (h : tsz P t = some (s, b)) : ∃ i : TypeInfo, i.bytes = b ∧ ∀ (F : PH) (Q : TypeInfo → PH → Prop), runs P (typeInfo t) F Q ↔ Q i F := by
  obtain ⟨i, h1, h2, h3⟩ := tsz_info h
  refine ⟨i, h3, fun F Q => ?_⟩
  unfold typeInfo program
  simp only [runs_bind', runs, h1, runs_pure]
theorem rdo_underlying {t : Nat} {d : TypeDesc} (h : P.underlying t = some d) (v : TypeDesc) : rdo P (underlying t) F v ↔ d = v := by
  unfold underlying program
  simp only [rdo_bind]
  constructor
  · rintro ⟨p, hp, h'⟩
    simp only [rdo] at hp
    subst hp
    rw [h] at h'
    exact h'
  · rintro rfl
    exact ⟨P, rfl, by rw [h]; rfl⟩
theorem runs_underlying {t : Nat} {d : TypeDesc} (h : P.underlying t = some d) (Q : TypeDesc → PH → Prop) : runs P (underlying t) F Q ↔ Q d F := by
  unfold underlying program
  simp only [runs_bind', runs, h, runs_pure]
theorem runs_zeroValue {t : Nat} {z : Value} (h : tzero P t = some z) (Q : Value → PH → Prop) : runs P (zeroValue t) F Q ↔ Q z F := by
  obtain ⟨i, h1, h2⟩ := tzero_info h
  unfold zeroValue typeInfo program
  simp only [runs_bind', runs, h1, runs_pure, h2]
theorem rdo_zeroValue {t : Nat} {z : Value} (h : tzero P t = some z) (v : Value) : rdo P (zeroValue t) F v ↔ z = v := by
  obtain ⟨i, h1, h2⟩ := tzero_info h
  unfold zeroValue typeInfo program
  simp only [rdo_bind]
  constructor
  · rintro ⟨i', ⟨p, hp, h⟩, h'⟩
    simp only [rdo] at hp
    subst hp
    rw [h1] at h
    simp only [rdo_pure] at h
    subst h
    rw [h2] at h'
    exact h'
  · rintro rfl
    exact ⟨i, ⟨P, rfl, by rw [h1]; rfl⟩, by rw [h2]; rfl⟩

/-- Operation o, given E and F, yields v and changes nothing. -/
def RD (P : Program) (E : En) (F : PH) (o : Oper) (v : Value) : Prop := rdo P (execOp (ev E) o) F (.value v)

variable {n : Nat} {Q : Exit → En → PH → Prop} {E : En} {ops : Array Oper} {o : Oper} {l : List Oper}

theorem HL_rd {v : Value} (h : RD P E F o v) (K : HL P n ops Q l (updO E o.dst v) F) (hw : Region.wanted o (yE ops E) = true := by rfl) (hd : dstOk n o.dst = true := by rfl) :
    HL P n ops Q (o :: l) E F := HL_op hw hd (rdo_runs _ _ _ _ h K)

theorem RG_rd {i : Nat} {oi : Oper} {v : Value} {fuel : Nat} {listed : Array Bool} {Sp : Pend} (hi : ops[i]? = some oi)
    (hs : Region.noSelect ops = true) (hf : Region.free .any ops listed i = true) (hr : (Region.ready .any ops listed).contains i = true) (hd : dstOk n oi.dst = true)
    (hp : ∀ c E F, ¬ Q (.panic c) E F) (hw : Region.wanted oi (yE ops E) = true) (hy : RD P E F oi v) (hh : holdF Sp F)
    (h : RG P n ops Q fuel (listed.setIfInBounds i true) ((i, fun w => ∃ e F, Sat e w F ∧ RD P E F oi v) :: Sp) (updO E oi.dst v) F) : RG P n ops Q (fuel + 1) listed Sp E F :=
  RG_read hi hs hf hr hd hp hw (fun w ⟨e, F', st, h⟩ => rdo_run _ _ _ _ h st) (fun e w st => ⟨e, F, st, hy⟩) hh h

theorem RG_pu {i : Nat} {oi : Oper} {v : Value} {fuel : Nat} {listed : Array Bool} {Sp : Pend} (hi : ops[i]? = some oi)
    (hs : Region.noSelect ops = true) (hf : Region.free .any ops listed i = true) (hr : (Region.ready .any ops listed).contains i = true) (hd : dstOk n oi.dst = true)
    (hp : ∀ c E F, ¬ Q (.panic c) E F) (hw : Region.wanted oi (yE ops E) = true) (hy : ∀ F, RD P E F oi v) (hh : holdF Sp F)
    (h : RG P n ops Q fuel (listed.setIfInBounds i true) Sp (updO E oi.dst v) F) : RG P n ops Q (fuel + 1) listed Sp E F :=
  RG_pure hi hs hf hr hd hp hw (fun w _ => by
    have st : Sat ⟨w.os, w.tape, w.output, fun _ => none⟩ w (fun _ => none) := ⟨rfl, rfl, rfl, fun b o h => (by cases h), fun b o h => (by cases h)⟩
    exact rdo_run _ _ _ _ (hy _) st) hh h

/-- A pending read still reads the same. -/
theorem allW_rd {v : Value} (h : RD P E F o v) : allW F (fun w => ∃ e F, Sat e w F ∧ RD P E F o v) := fun e _ st => ⟨e, F, st, h⟩

end
end Go.Proofs.YtnjcgpihfmklfaaDoor
