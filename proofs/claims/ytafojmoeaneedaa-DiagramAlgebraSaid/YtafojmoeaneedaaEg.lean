/-
  The diagrams: an operation on three diagrams: the numbers of the results.
-/
import Derived.Test.YtafojmoeaneedaaEf
namespace Go.Proofs.Ytafojmoeaneedaa
open Go Go.Proofs.Try Tr
set_option maxRecDepth 10000

theorem cb97 : callableB prog 97 = true := by kernel_rfl

theorem BD.weaken {F0 F1 F : PH} {b m : Nat} {S : List Tr} (h : BD F1 F b m S) (hl : F0.le F1) : BD F0 F b m S := by
  obtain ⟨h1, h2, h3, h4, ⟨s, h5, h6, h7⟩, h8⟩ := h
  exact ⟨hl.trans h1, h2, le_none hl h3, le_none hl h4, ⟨s, h5, h6, fun a ha => le_none hl (h7 a ha)⟩, h8⟩
theorem BD.upto {F0 F G : PH} {b m : Nat} {S : List Tr} (h : BD F0 F b m S) (hl : F.le G) : BD F0 G b m S := by
  obtain ⟨h1, h2, h3, h4, ⟨s, h5, h6, h7⟩, o, h8, h9⟩ := h
  exact ⟨h1.trans hl, h2, h3, h4, ⟨s, hl _ _ h5, h6.upto hl, h7⟩, o, hl _ _ h8, h9⟩
/-- A block beside the builder's joins what is fixed. -/
theorem BD.grow {F0 G F : PH} {b m x : Nat} {o : Obj} {S : List Tr} (h : BD F0 G b m S) (hl : G.le F) (hx : G x = none) (ho : F x = some o) : BD (F0.set x o) F b m S := by
  obtain ⟨h1, h2, h3, h4, ⟨s, h5, h6, h7⟩, o', h8, h9⟩ := h
  refine ⟨fun y oy hy => ?_, h2, ?_, ?_, ⟨s, hl _ _ h5, h6.upto hl, fun a ha => ?_⟩, o', hl _ _ h8, h9⟩
  · by_cases hyx : y = x
    · subst hyx; rw [set_eq] at hy; rw [ho]; exact hy
    · rw [set_ne _ _ hyx] at hy; exact hl _ _ (h1 _ _ hy)
  · rw [set_ne _ _ (ne_of_fresh hx h5)]; exact h3
  · rw [set_ne _ _ (ne_of_fresh hx h8)]; exact h4
  · obtain ⟨cur, hcur⟩ := h6.elem ha
    rw [set_ne _ _ (ne_of_fresh hx hcur)]
    exact h7 a ha
/-- A block beside the builder's changes. -/
theorem BD.other {F0 F : PH} {b m x : Nat} {o : Obj} {S : List Tr} (h : BD F0 F b m S) (h0 : F0 x = none) (hb : b ≠ x) (hm : m ≠ x) (hc : ∀ c e fr, F x ≠ some (.cells c e fr)) : BD F0 (F.set x o) b m S := by
  obtain ⟨h1, h2, h3, h4, ⟨s, h5, h6, h7⟩, o', h8, h9⟩ := h
  refine ⟨le_set_new h1 h0, h2, h3, h4, ⟨s, by rw [set_ne _ _ hb]; exact h5, h6.keep fun a ha => set_ne _ _ (fun e => ?_), h7⟩, o', by rw [set_ne _ _ hm]; exact h8, h9⟩
  obtain ⟨cur, hcur⟩ := h6.elem ha
  rw [e] at hcur
  exact hc _ _ _ hcur

structure AP where
  b3 : Nat
  b6 : Nat
  b2 : Nat
  b7 : Nat
  b5 : Nat
  bb : Nat
  mm : Nat
  b9 : Nat
  opv : Value
  o : Op3
  dd : Nat → Dia
  SS : Nat → List Tr

def AP.key (p : AP) (t : Nat → Tr) : Int × Int × Int := ((num (p.SS 0) (t 0) : Int), (num (p.SS 1) (t 1) : Int), (num (p.SS 2) (t 2) : Int))
noncomputable def AP.res (p : AP) (t : Nat → Tr) : Tr := ap p.o (t 0) (t 1) (t 2)
def AP.inK (p : AP) (t : Nat → Tr) : Prop := inn (p.SS 0) (t 0) ∧ inn (p.SS 1) (t 1) ∧ inn (p.SS 2) (t 2)
def AP.caps (p : AP) : Array Value := #[.pointer (some ⟨p.b3, 0, none⟩), .pointer (some ⟨p.b6, 0, none⟩), .pointer (some ⟨p.b2, 0, none⟩), .pointer (some ⟨p.b7, 0, none⟩), .pointer (some ⟨p.b5, 0, none⟩)]

/-- A function value that computes o. -/
def OpV (F0 : PH) (v : Value) (o : Op3) : Prop := ∃ (k : Nat) (fst cap : Array Value), v = .func (.func k) fst cap ∧ callableB prog k = true ∧
  ∀ (x y z : Bool) (F : PH), F0.le F → Spec prog k (fst ++ [Value.bool x, Value.bool y, Value.bool z].toArray ++ cap) F fun r F' => r = .bool (o x y z) ∧ F.le F'
theorem OpV.le {F0 G : PH} {v : Value} {o : Op3} (h : OpV F0 v o) (hl : F0.le G) : OpV G v o := by
  obtain ⟨k, f, c, h1, h2, h3⟩ := h
  exact ⟨k, f, c, h1, h2, fun x y z F hF => h3 x y z F (hl.trans hF)⟩

structure AF (p : AP) : Prop where
  cl : ∀ i, i < 3 → Cl (p.SS i)
  pre : ∀ i, i < 3 → brs (p.SS i) <+: (p.dd i).1
  fit : ∀ i, i < 3 → Fit ((p.dd i).1.length + 2)
structure AE (F0 : PH) (p : AP) : Prop where
  c3 : F0.cell ⟨p.b3, 0, none⟩ = some p.opv
  c6 : F0.cell ⟨p.b6, 0, none⟩ = some (.map (some p.b9))
  c2 : ∀ i, i < 3 → ∃ w, F0.row ⟨p.b2, i * 2, none⟩ w ∧ DV F0 w (p.dd i)
  c7 : F0.cell ⟨p.b7, 0, none⟩ = some (.func (.func 97) #[] p.caps)
  c5 : F0.cell ⟨p.b5, 0, none⟩ = some (.pointer (some ⟨p.bb, 0, none⟩))
  op : OpV F0 p.opv p.o
theorem row_le {F G : PH} (h : F.le G) {a : Addr} {cs : Array Value} (hr : F.row a cs) : G.row a cs := fun i hi => le_cell h (hr i hi)
theorem AE.le {F0 G : PH} {p : AP} (h : AE F0 p) (hl : F0.le G) : AE G p :=
  ⟨le_cell hl h.c3, le_cell hl h.c6, fun i hi => by
    obtain ⟨w, h1, h2⟩ := h.c2 i hi
    exact ⟨w, row_le hl h1, h2.le hl⟩, le_cell hl h.c7, le_cell hl h.c5, h.op.le hl⟩

def memoOK (p : AP) (S : List Tr) (m3 : Int × Int × Int → Option Value) : Prop := ∀ k v, m3 k = some v → ∃ t, p.inK t ∧ k = p.key t ∧ inn S (p.res t) ∧ v = vi (num S (p.res t))
structure AS (F0 F : PH) (p : AP) (S : List Tr) : Prop where
  bd : BD F0 F p.bb p.mm S
  n9 : F0 p.b9 = none
  ne : p.mm ≠ p.b9
  memo : ∃ o m3, F p.b9 = some o ∧ MapO enc3 m3 o ∧ memoOK p S m3
theorem AS.upto {F0 F G : PH} {p : AP} {S : List Tr} (h : AS F0 F p S) (hl : F.le G) : AS F0 G p S := by
  obtain ⟨h1, h2, h3, o, m3, h4, h5⟩ := h
  exact ⟨h1.upto hl, h2, h3, o, m3, hl _ _ h4, h5⟩
theorem AS.weaken {F0 F1 F : PH} {p : AP} {S : List Tr} (h : AS F1 F p S) (hl : F0.le F1) : AS F0 F p S := by
  obtain ⟨h1, h2, h3, h4⟩ := h
  exact ⟨h1.weaken hl, le_none hl h2, h3, h4⟩
theorem AS.grow {F0 G F : PH} {p : AP} {S : List Tr} {x : Nat} {o : Obj} (h : AS F0 G p S) (hl : G.le F) (hx : G x = none) (ho : F x = some o) : AS (F0.set x o) F p S := by
  obtain ⟨h1, h2, h3, o', m3, h4, h5⟩ := h
  exact ⟨h1.grow hl hx ho, by rw [set_ne _ _ (ne_of_fresh hx h4)]; exact h2, h3, o', m3, hl _ _ h4, h5⟩

theorem key_inj {p : AP} {t u : Nat → Tr} (ht : p.inK t) (hu : p.inK u) (h : p.key t = p.key u) : p.res t = p.res u := by
  unfold AP.key at h
  simp only [Prod.mk.injEq] at h
  obtain ⟨h1, h2, h3⟩ := h
  unfold AP.res
  rw [num_inj ht.1 hu.1 (by omega), num_inj ht.2.1 hu.2.1 (by omega), num_inj ht.2.2 hu.2.2 (by omega)]

theorem vis_grow (t : Tr) (S : List Tr) : S.length ≤ (vis t S).length := by
  induction t generalizing S with
  | leaf b => exact Nat.le_refl _
  | node v l h ihl ihh =>
    unfold vis
    split
    · exact Nat.le_refl _
    · have h1 := ihl S
      have h2 := ihh (vis l S)
      simp only [List.length_append]
      omega
theorem addT_le (S : List Tr) (t : Tr) : S.length ≤ (addT S t).length := by
  unfold addT
  split <;> simp

def szs (t : Nat → Tr) : Nat := (t 0).sz + (t 1).sz + (t 2).sz
def AtSpec (p : AP) (t : Nat → Tr) : Prop := ∀ (F0 F : PH) (S : List Tr), AE F0 p → AS F0 F p S → Fit ((vis (p.res t) S).length + 4) →
  Spec prog 97 (#[.agg (arr3 (p.key t))] ++ p.caps) F fun r F' => r = vi (num (vis (p.res t) S) (p.res t)) ∧ AS F0 F' p (vis (p.res t) S)

/-- What the trees are, below their least condition. -/
structure Down (p : AP) (t : Nat → Tr) (v : Nat) : Prop where
  hv : v = top3 (t 0) (t 1) (t 2)
  lt : v < 64
  il : p.inK (fun i => lo v (t i))
  ih : p.inK (fun i => hi v (t i))
  sl : szs (fun i => lo v (t i)) < szs t
  sh : szs (fun i => hi v (t i)) < szs t
  tl : v < (p.res (fun i => lo v (t i))).top
  th : v < (p.res (fun i => hi v (t i))).top
  ol : (p.res (fun i => lo v (t i))).ok
  oh : (p.res (fun i => hi v (t i))).ok
  res : p.res t = mk v (p.res (fun i => lo v (t i))) (p.res (fun i => hi v (t i)))
theorem down {p : AP} (hf : AF p) {t : Nat → Tr} (ht : p.inK t) (hv : top3 (t 0) (t 1) (t 2) < 64) : Down p t (top3 (t 0) (t 1) (t 2)) := by
  have h0 := (hf.cl 0 (by omega)).inn_ok ht.1
  have h1 := (hf.cl 1 (by omega)).inn_ok ht.2.1
  have h2 := (hf.cl 2 (by omega)).inn_ok ht.2.2
  have hs := ap_step (o := p.o) h0 h1 h2 hv
  have v1 : top3 (t 0) (t 1) (t 2) ≤ (t 0).top := by unfold top3; omega
  have v2 : top3 (t 0) (t 1) (t 2) ≤ (t 1).top := by unfold top3; omega
  have v3 : top3 (t 0) (t 1) (t 2) ≤ (t 2).top := by unfold top3; omega
  have hcase : top3 (t 0) (t 1) (t 2) = (t 0).top ∨ top3 (t 0) (t 1) (t 2) = (t 1).top ∨ top3 (t 0) (t 1) (t 2) = (t 2).top := by unfold top3; omega
  generalize hw : top3 (t 0) (t 1) (t 2) = v at *
  have nl : ∀ {t : Tr}, v = t.top → t.isL = false := fun {t} e => by
    cases t with
    | leaf b => simp only [top] at e; omega
    | node _ _ _ => rfl
  obtain ⟨al1, al2, al3, al4, al5⟩ := lo_facts h0 v1
  obtain ⟨bl1, bl2, bl3, bl4, bl5⟩ := lo_facts h1 v2
  obtain ⟨dl1, dl2, dl3, dl4, dl5⟩ := lo_facts h2 v3
  obtain ⟨ah1, ah2, ah3, ah4, ah5⟩ := hi_facts h0 v1
  obtain ⟨bh1, bh2, bh3, bh4, bh5⟩ := hi_facts h1 v2
  obtain ⟨dh1, dh2, dh3, dh4, dh5⟩ := hi_facts h2 v3
  obtain ⟨l1, l2, l3⟩ := ap_facts (o := p.o) al1 bl1 dl1
  obtain ⟨g1, g2, g3⟩ := ap_facts (o := p.o) ah1 bh1 dh1
  refine ⟨hw.symm, hv, ⟨(hf.cl 0 (by omega)).inn_lo ht.1 v, (hf.cl 1 (by omega)).inn_lo ht.2.1 v, (hf.cl 2 (by omega)).inn_lo ht.2.2 v⟩,
    ⟨(hf.cl 0 (by omega)).inn_hi ht.1 v, (hf.cl 1 (by omega)).inn_hi ht.2.1 v, (hf.cl 2 (by omega)).inn_hi ht.2.2 v⟩, ?_, ?_, ?_, ?_, l1, g1, hs⟩
  · simp only [szs]
    rcases hcase with e | e | e
    · have := al4 e.symm (nl e); omega
    · have := bl4 e.symm (nl e); omega
    · have := dl4 e.symm (nl e); omega
  · simp only [szs]
    rcases hcase with e | e | e
    · have := ah4 e.symm (nl e); omega
    · have := bh4 e.symm (nl e); omega
    · have := dh4 e.symm (nl e); omega
  · have := al2 hv; have := bl2 hv; have := dl2 hv; unfold top3 at l2; show v < (ap p.o (lo v (t 0)) (lo v (t 1)) (lo v (t 2))).top; omega
  · have := ah2 hv; have := bh2 hv; have := dh2 hv; unfold top3 at g2; show v < (ap p.o (hi v (t 0)) (hi v (t 1)) (hi v (t 2))).top; omega
end Go.Proofs.Ytafojmoeaneedaa
