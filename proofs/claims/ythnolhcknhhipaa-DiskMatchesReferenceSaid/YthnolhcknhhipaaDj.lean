/-
  The disk: the bytes of an operation; several disks side by side.
-/
import Derived.Test.YthnolhcknhhipaaDi
import Derived.Test.YthnolhcknhhipaaGa
import Derived.Test.YthnolhcknhhipaaGe
namespace Go.Proofs.Ythnolhcknhhipaa
open Go Go.Proofs.Try

/-! Data -/
def opLen (o : OpD) : Nat := (min (max (IntKind.i64.wrap (64 + o.long)) 0) 70).toNat
def opByte (o : OpD) (i : Nat) : Int := IntKind.u8.wrap (o.fill + IntKind.u8.wrap (i : Int))
def opData (o : OpD) : List Int := (List.range (opLen o)).map (opByte o)
theorem opLen_le (o : OpD) : opLen o ≤ 70 := by unfold opLen; omega
theorem opLen_int (o : OpD) : min (max (IntKind.i64.wrap (64 + o.long)) 0) 70 = ((opLen o : Nat) : Int) := by unfold opLen; omega
theorem opData_len (o : OpD) : (opData o).length = opLen o := by simp [opData]
theorem data_spec (F : PH) (o : OpD) : Spec prog 28 #[.agg o.cells.toArray] F fun v F' => ∃ sl, v = Sl.v sl ∧ sl.len = opLen o ∧ sl.cap = opLen o ∧ RdS (mns F' (old F)) sl 1 (u8s (opData o)) ∧ F.le F' := by
  refine c28 ?_
  unfold b28
  intro b1 hb1
  refine atI ?_
  have hle1 := le_set_fresh (.cells o.cells.toArray 40) hb1
  have hcel : (F.set b1 (.cells o.cells.toArray 40)) b1 = some (.cells o.cells.toArray 40 (0, 0)) := set_eq _ _ _
  refine ⟨o.long, by rw [cell_eq hcel]; rfl, ?_⟩
  have hL := opLen_le o
  rw [opLen_int]
  refine runs_makeSlice underlying26 sz5 zr5 rfl (by omega) (by omega) (by omega) (by omega) ?_
  intro g hg
  have hg1 : g ≠ b1 := fun e => by rw [e, hcel] at hg; cases hg
  have hFg : F g = none := le_none hle1 hg
  rw [zc1 _ rfl]
  simp only [Int.toNat_natCast]
  refine ⟨_, rfl, ?_⟩
  refine ⟨fun m i F' => ∃ k : Nat, i = k ∧ k ≤ opLen o ∧ m = opLen o - k ∧ F' = (F.set b1 (.cells o.cells.toArray 40)).set g (.cells (u8s ((List.range k).map (opByte o) ++ List.replicate (opLen o - k) 0)).toArray 5), opLen o, ⟨0, rfl, by omega, rfl, by simp⟩, ?_⟩
  rintro m i F' ⟨k, rfl, hk, rfl, rfl⟩
  unfold b28L1
  refine ⟨fun hlt => ?_, fun hge => ?_⟩
  · have hk' : k < opLen o := by simpa using hlt
    refine ⟨o.fill, ?_, _, rfl, by omega, by simpa using hlt, ?_⟩
    · have : ((F.set b1 (.cells o.cells.toArray 40)).set g (.cells (u8s ((List.range k).map (opByte o) ++ List.replicate (opLen o - k) 0)).toArray 5)) b1 = some (.cells o.cells.toArray 40 (0, 0)) := by rw [set_ne _ _ hg1.symm]; exact hcel
      rw [cell_eq this]
      rfl
    refine st1' (b := g) (o := k) (by simp) (set_eq _ _ _) (by simp; omega) ?_
    refine ⟨opLen o - (k + 1), by omega, k + 1, w64s (by omega), by omega, rfl, ?_⟩
    rw [set_twice]
    congr 2
    apply Array.ext'
    have e : opLen o - k = (opLen o - (k + 1)) + 1 := by omega
    simp only [List.setIfInBounds_toArray]
    rw [e, List.replicate_succ, List.range_succ]
    simp only [u8s, List.map_append, List.map_cons, List.map_nil, List.append_assoc, List.cons_append, List.nil_append]
    rw [List.set_append_right _ _ (by simp)]
    simp [opByte]
  · obtain rfl : k = opLen o := by simp at hge; omega
    unfold b28j1
    refine ⟨_, rfl, rfl, rfl, rd_new (tl := []) (e := 5) (by rw [set_eq]; simp [opData]) (fun hp => hp hFg) (by simp [opData]) (Nat.le_refl _), ?_⟩
    exact le_trans' hle1 (le_set_fresh _ hg)
theorem OpsRd.row {F : PH} {l : Sl} {ops : List OpD} (h : OpsRd F l ops) {k : Nat} (hk : k < ops.length) {a : Addr} (ha : l.base = some a) : F.row (Addr.add a (Int.toNat (k : Int) * 5)) ops[k].cells.toArray := by
  obtain ⟨b, o, hb, hc⟩ := h.field hk
  rw [ha] at hb
  cases hb
  intro i hi
  have := hc i (ops[k].cells.toArray[i]) (by simp)
  rw [add_mk, add_mk]
  simpa [Nat.add_assoc] using this

/-! several disks -/
def fput {α : Type} (f : Nat → α) (i : Nat) (x : α) : Nat → α := fun j => if j = i then x else f j
def allF (N : Nat) (FP : Nat → Nat → Prop) : Nat → Prop := fun b => ∃ i, i < N ∧ FP i b
structure Fam (F0 F : PH) (N : Nat) (I : Nat → Nat) (FP : Nat → Nat → Prop) (S : Nat → DS) : Prop where
  le : F0.le F
  rep : ∀ i, i < N → DRep F (I i) (FP i) 4 (S i)
  kept : ∀ i, i < N → (S i).kept = []
  new : ∀ i, i < N → ∀ b, FP i b → F0 b = none
  dis : ∀ i j b, i < N → j < N → i ≠ j → FP i b → ¬ FP j b
section
variable {F0 F G : PH} {N : Nat} {I : Nat → Nat} {FP : Nat → Nat → Prop} {S : Nat → DS}
theorem Fam.dom (h : Fam F0 F N I FP S) : ∀ b, allF N FP b → F b ≠ none := fun b ⟨i, hi, hb⟩ => (h.rep i hi).dom b hb
theorem Fam.ext (h : Fam F0 F N I FP S) (hl : F.le G) : Fam F0 G N I FP S ∧ Step (allF N FP) F (allF N FP) G :=
  ⟨⟨le_trans' h.le hl, fun i hi => (h.rep i hi).le hl, h.kept, h.new, h.dis⟩, Step.of_le hl⟩
theorem Fam.step (h : Fam F0 F N I FP S) {i : Nat} (hi : i < N) {fq : Nat → Prop} {s' : DS} (hr : DRep G (I i) fq 4 s') (hk : s'.kept = []) (hs : Step (FP i) F fq G) :
    Fam F0 G N I (fput FP i fq) (fput S i s') ∧ Step (allF N FP) F (allF N (fput FP i fq)) G := by
  have hst : Step (allF N FP) F (allF N (fput FP i fq)) G := by
    refine ⟨fun b o hb hn => hs.keep b o hb (fun hp => hn ⟨i, hi, hp⟩), fun b hb => ?_⟩
    obtain ⟨j, hj, hb⟩ := hb
    by_cases e : j = i
    · simp only [fput, e, if_true] at hb
      rcases hs.new b hb with h1 | h1
      · exact .inl ⟨i, hi, h1⟩
      · exact .inr h1
    · simp only [fput, e, if_false] at hb
      exact .inl ⟨j, hj, hb⟩
  obtain ⟨h1, h2⟩ := hst.fresh h.le (fun b ⟨j, hj, hb⟩ => h.new j hj b hb)
  refine ⟨⟨h1, fun j hj => ?_, fun j hj => ?_, fun j hj b hb => h2 b ⟨j, hj, hb⟩, fun j k b hj hk hjk hb hb2 => ?_⟩, hst⟩
  · by_cases e : j = i
    · subst e
      simp only [fput, if_true]
      exact hr
    · simp only [fput, e, if_false]
      refine (h.rep j hj).keep0 (h.kept j hj) (fun b hb => ?_)
      have hd := (h.rep j hj).dom b hb
      cases hf : F b with
      | none => exact absurd hf hd
      | some o => exact hs.keep b o hf (fun hp => h.dis i j b hi hj (Ne.symm e) hp hb)
  · by_cases e : j = i
    · simp only [fput, e, if_true]; exact hk
    · simp only [fput, e, if_false]; exact h.kept j hj
  · have one : ∀ x b, x < N → x ≠ i → FP x b → ¬ fq b := fun x b hx hxi hb hq => by
      rcases hs.new b hq with h3 | h3
      · exact h.dis x i b hx hi hxi hb h3
      · exact (h.rep x hx).dom b hb h3
    by_cases e : j = i
    · simp only [fput, e, if_true] at hb
      have e2 : k ≠ i := fun e2 => hjk (by rw [e, e2])
      simp only [fput, e2, if_false] at hb2
      exact one k b hk e2 hb2 hb
    · simp only [fput, e, if_false] at hb
      by_cases e2 : k = i
      · simp only [fput, e2, if_true] at hb2
        exact one j b hj e hb hb2
      · simp only [fput, e2, if_false] at hb2
        exact h.dis j k b hj hk hjk hb hb2
/-- One disk more. -/
theorem Fam.more (h : Fam F0 F N I FP S) {d : Nat} {fq : Nat → Prop} {s' : DS} (hl : F.le G) (hr : DRep G d fq 4 s') (hk : s'.kept = []) (hn : ∀ b, fq b → F b = none) :
    Fam F0 G (N + 1) (fput I N d) (fput FP N fq) (fput S N s') ∧ Step (allF N FP) F (allF (N + 1) (fput FP N fq)) G := by
  have hst : Step (allF N FP) F (allF (N + 1) (fput FP N fq)) G := by
    refine ⟨Keep.of_le hl, fun b hb => ?_⟩
    obtain ⟨j, hj, hb⟩ := hb
    by_cases e : j = N
    · simp only [fput, e, if_true] at hb
      exact .inr (hn b hb)
    · simp only [fput, e, if_false] at hb
      exact .inl ⟨j, by omega, hb⟩
  obtain ⟨h1, h2⟩ := hst.fresh h.le (fun b ⟨j, hj, hb⟩ => h.new j hj b hb)
  refine ⟨⟨h1, fun j hj => ?_, fun j hj => ?_, fun j hj b hb => h2 b ⟨j, hj, hb⟩, fun j k b hj hk2 hjk hb hb2 => ?_⟩, hst⟩
  · by_cases e : j = N
    · simp only [fput, e, if_true]; exact hr
    · simp only [fput, e, if_false]; exact (h.rep j (by omega)).le hl
  · by_cases e : j = N
    · simp only [fput, e, if_true]; exact hk
    · simp only [fput, e, if_false]; exact h.kept j (by omega)
  · by_cases e : j = N
    · simp only [fput, e, if_true] at hb
      have e2 : k ≠ N := fun e2 => hjk (by rw [e, e2])
      simp only [fput, e2, if_false] at hb2
      exact (h.rep k (by omega)).dom b hb2 (hn b hb)
    · simp only [fput, e, if_false] at hb
      by_cases e2 : k = N
      · simp only [fput, e2, if_true] at hb2
        exact (h.rep j (by omega)).dom b hb (hn b hb2)
      · simp only [fput, e2, if_false] at hb2
        exact h.dis j k b (by omega) (by omega) hjk hb hb2
theorem all_sub {i : Nat} (hi : i < N) : (mns F (allF N FP)).le (mns F (FP i)) := fun b o hb => by
  by_cases hp : allF N FP b
  · simp [mns, hp] at hb
  · rw [mns_of hp] at hb
    rw [mns_of (fun hf => hp ⟨i, hi, hf⟩)]
    exact hb
end
end Go.Proofs.Ythnolhcknhhipaa
