/-
  The disk: disks side by side, each with all the blocks that it reads.
-/
import Derived.Test.YthnolhcknhhipaaDk
namespace Go.Proofs.Ythnolhcknhhipaa
open Go Go.Proofs.Try

open Classical in
noncomputable def only (F : PH) (X : Nat → Prop) : PH := fun b => if X b then F b else none
theorem only_of {F : PH} {X : Nat → Prop} {b : Nat} (h : X b) : only F X b = F b := by simp [only, h]
theorem only_not {F : PH} {X : Nat → Prop} {b : Nat} (h : ¬ X b) : only F X b = none := by simp [only, h]
theorem only_le (F : PH) (X : Nat → Prop) : (only F X).le F := fun b o h => by
  by_cases hx : X b
  · rw [only_of hx] at h; exact h
  · rw [only_not hx] at h; cases h
theorem only_mono {F : PH} {X Y : Nat → Prop} (h : ∀ b, X b → Y b) : (only F X).le (only F Y) := fun b o hb => by
  by_cases hx : X b
  · rw [only_of hx] at hb; rw [only_of (h b hx)]; exact hb
  · rw [only_not hx] at hb; cases hb
theorem only_and (F : PH) (X : Nat → Prop) : F = (only F X).and (mns F X) := by
  funext b
  by_cases hx : X b
  · cases hf : F b with
    | none => simp [PH.and, only, mns, hx, hf]
    | some o => simp [PH.and, only, hx, hf]
  · simp [PH.and, only, mns, hx]
theorem cell_congr {F G : PH} {b o : Nat} (h : F b = G b) : F.cell ⟨b, o, none⟩ = G.cell ⟨b, o, none⟩ := by unfold PH.cell; simp only [h]
/-- The block of a row that is not empty. -/
def rowB (x : Sl) : Nat → Prop := fun b => 0 < x.len ∧ ∃ a, x.base = some a ∧ a.block = b
theorem RdS.only {F : PH} {all fp X : Nat → Prop} {x : Sl} {size : Nat} {vs : List Value} (h : RdS (mns F all) x size vs) (hs : 0 < size) (hf : ∀ b, fp b → all b) :
    RdS (mns (only F (fun b => X b ∨ rowB x b)) fp) x size vs ∧ ∀ b, rowB x b → F b ≠ none ∧ ¬ all b := by
  have key : 0 < x.len → ∃ b o, x.base = some ⟨b, o, none⟩ ∧ F b ≠ none ∧ ¬ all b ∧ ∀ i, (h : i < vs.length) → F.cell ⟨b, o + i, none⟩ = some vs[i] := fun hp => by
    obtain ⟨b, o, h1, h2⟩ := h.cells hp
    have hv : 0 < vs.length := by rw [h.len]; exact Nat.mul_pos hp hs
    have h3 := h2 0 hv
    have hall : ¬ all b := fun ha => by
      have : mns F all b = none := by simp [mns, ha]
      unfold PH.cell at h3
      simp only [this] at h3
      cases h3
    refine ⟨b, o, h1, fun hn => ?_, hall, fun i hi => ?_⟩
    · have : mns F all b = none := by rw [mns_of hall]; exact hn
      unfold PH.cell at h3
      simp only [this] at h3
      cases h3
    · rw [← h2 i hi]
      exact (cell_congr (mns_of hall)).symm
  refine ⟨⟨h.len, h.cap, fun hp => ?_⟩, fun b ⟨hp, a, ha, hb⟩ => ?_⟩
  · obtain ⟨b, o, h1, _, h2, h3⟩ := key hp
    refine ⟨b, o, h1, fun i hi => ?_⟩
    rw [← h3 i hi]
    refine cell_congr ?_
    rw [mns_of (fun hp => h2 (hf b hp)), only_of (.inr ⟨hp, _, h1, rfl⟩)]
  · obtain ⟨b', o, h1, h2, h3, _⟩ := key hp
    rw [ha] at h1
    cases h1
    exact hb ▸ ⟨h2, h3⟩

structure Isl (F0 F : PH) (n N : Nat) (I : Nat → Nat) (X FP : Nat → Nat → Prop) (S : Nat → DS) : Prop where
  le : F0.le F
  rep : ∀ i, i < N → DRep (only F (X i)) (I i) (FP i) n (S i)
  dom : ∀ i, i < N → ∀ b, X i b → F b ≠ none
  new : ∀ i, i < N → ∀ b, FP i b → F0 b = none
  sep : ∀ i j b, i < N → j < N → i ≠ j → FP i b → ¬ X j b
section
variable {F0 F G : PH} {n N : Nat} {I : Nat → Nat} {X FP : Nat → Nat → Prop} {S : Nat → DS}
theorem Isl.all (M : Isl F0 F n N I X FP S) {i : Nat} (hi : i < N) : DRep F (I i) (FP i) n (S i) := (M.rep i hi).le (only_le _ _)
theorem Isl.inX (M : Isl F0 F n N I X FP S) {i : Nat} (hi : i < N) {b : Nat} (hb : FP i b) : X i b := by
  have := (M.rep i hi).dom b hb
  by_cases hx : X i b
  · exact hx
  · rw [only_not hx] at this; exact absurd rfl this
theorem Isl.fdom (M : Isl F0 F n N I X FP S) : ∀ b, allF N FP b → F b ≠ none := fun b ⟨i, hi, hb⟩ => (M.all hi).dom b hb
theorem Isl.ext (M : Isl F0 F n N I X FP S) (hl : F.le G) : Isl F0 G n N I X FP S ∧ Step (allF N FP) F (allF N FP) G := by
  refine ⟨⟨le_trans' M.le hl, fun i hi => (M.rep i hi).le (fun b o hb => ?_), fun i hi b hb => ?_, M.new, M.sep⟩, Step.of_le hl⟩
  · by_cases hx : X i b
    · rw [only_of hx] at hb ⊢; exact hl b o hb
    · rw [only_not hx] at hb; cases hb
  · have := M.dom i hi b hb
    cases hf : F b with
    | none => exact absurd hf this
    | some o => rw [hl b o hf]; simp
theorem Isl.state {S' : Nat → DS} {I' : Nat → Nat} (M : Isl F0 F n N I X FP S) (hI : ∀ i, i < N → I i = I' i) (hs : ∀ i, i < N → S i = S' i) : Isl F0 F n N I' X FP S' :=
  ⟨M.le, fun i hi => by rw [← hs i hi, ← hI i hi]; exact M.rep i hi, M.dom, M.new, M.sep⟩
/-- One disk more. -/
theorem Isl.more (M : Isl F0 F n N I X FP S) {c : Nat} {fq : Nat → Prop} {s' : DS} (hl : F.le G) (hr : DRep (mns G (old F)) c fq n s') (hn : ∀ b, fq b → F b = none) :
    ∃ X', Isl F0 G n (N + 1) (fput I N c) (fput X N X') (fput FP N fq) (fput S N s') ∧ Step (allF N FP) F (allF (N + 1) (fput FP N fq)) G := by
  have hst : Step (allF N FP) F (allF (N + 1) (fput FP N fq)) G := by
    refine ⟨Keep.of_le hl, fun b hb => ?_⟩
    obtain ⟨j, hj, hb⟩ := hb
    by_cases e : j = N
    · simp only [fput, e, if_true] at hb
      exact .inr (hn b hb)
    · simp only [fput, e, if_false] at hb
      exact .inl ⟨j, by omega, hb⟩
  obtain ⟨h1, h2⟩ := hst.fresh M.le (fun b ⟨j, hj, hb⟩ => M.new j hj b hb)
  have M' := (M.ext hl).1
  refine ⟨fun b => F b = none ∧ G b ≠ none, ⟨h1, fun j hj => ?_, fun j hj b hb => ?_, fun j hj b hb => h2 b ⟨j, hj, hb⟩, fun j k b hj hk hjk hb hb2 => ?_⟩, hst⟩
  · by_cases e : j = N
    · simp only [fput, e, if_true]
      refine hr.le (fun b o hb => ?_)
      by_cases hp : old F b
      · simp [mns, hp] at hb
      · rw [mns_of hp] at hb
        have hf : F b = none := Classical.byContradiction hp
        rw [only_of ⟨hf, by rw [hb]; simp⟩]
        exact hb
    · simp only [fput, e, if_false]; exact M'.rep j (by omega)
  · by_cases e : j = N
    · simp only [fput, e, if_true] at hb; exact hb.2
    · simp only [fput, e, if_false] at hb; exact M'.dom j (by omega) b hb
  · by_cases e : j = N
    · simp only [fput, e, if_true] at hb
      have e2 : k ≠ N := fun e2 => hjk (by rw [e, e2])
      simp only [fput, e2, if_false] at hb2
      exact M.dom k (by omega) b hb2 (hn b hb)
    · simp only [fput, e, if_false] at hb
      by_cases e2 : k = N
      · simp only [fput, e2, if_true] at hb2
        exact (M.all (i := j) (by omega)).dom b hb hb2.1
      · simp only [fput, e2, if_false] at hb2
        exact M.sep j k b (by omega) (by omega) hjk hb hb2
/-- A call that changes disk i. -/
theorem Isl.opZ (M : Isl F0 F n N I X FP S) {i : Nat} (hi : i < N) {A : Nat → Prop} (hA : ∀ b, A b → F b ≠ none ∧ ¬ allF N FP b) {k : FuncId} {args : Array Value} {u : Value} {s' : DS} {Z : Nat → Prop}
    (hs : Spec prog k args (only F (fun b => X i b ∨ A b)) fun v G => v = u ∧ ∃ fq, DRep (only G Z) (I i) fq n s' ∧ Step (FP i) (only F (fun b => X i b ∨ A b)) fq G) :
    Spec prog k args F fun v F' => v = u ∧ ∃ fq X', Isl F0 F' n N I (fput X i X') (fput FP i fq) (fput S i s') ∧ Step (allF N FP) F (allF N (fput FP i fq)) F' ∧ ∀ b, X' b → Z b ∧ (X i b ∨ A b ∨ F b = none) := by
  have hb := hs.beside (H := mns F (fun b => X i b ∨ A b)) (fun b o hb => by
    by_cases hx : X i b ∨ A b
    · simp [mns, hx] at hb
    · exact only_not hx)
  rw [← only_and] at hb
  refine hb.mono ?_
  rintro v F' ⟨G, ⟨rfl, fq, hr, hst⟩, rfl, hdis⟩
  have key : ∀ b o, F b = some o → ¬ FP i b → (G.and (mns F (fun b => X i b ∨ A b))) b = some o := fun b o hb hn => by
    by_cases hx : X i b ∨ A b
    · exact PH.and_left (hst.keep b o (by rw [only_of hx]; exact hb) hn)
    · have hm : mns F (fun b => X i b ∨ A b) b = some o := by rw [mns_of hx]; exact hb
      rw [PH.and_right (hdis b o hm)]
      exact hm
  have hq : ∀ b, fq b → FP i b ∨ F b = none := fun b hb => by
    rcases hst.new b hb with h1 | h1
    · exact .inl h1
    · right
      by_cases hx : X i b ∨ A b
      · rw [only_of hx] at h1; exact h1
      · cases hf : F b with
        | none => rfl
        | some o =>
          have hm : mns F (fun b => X i b ∨ A b) b = some o := by rw [mns_of hx]; exact hf
          exact absurd (hdis b o hm) (fun e => hr.dom b hb (by unfold only; rw [e]; simp))
  have hs2 : Step (allF N FP) F (allF N (fput FP i fq)) (G.and (mns F (fun b => X i b ∨ A b))) := by
    refine ⟨fun b o hb hn => key b o hb (fun hp => hn ⟨i, hi, hp⟩), fun b ⟨j, hj, hb⟩ => ?_⟩
    by_cases e : j = i
    · simp only [fput, e, if_true] at hb
      rcases hq b hb with h1 | h1
      · exact .inl ⟨i, hi, h1⟩
      · exact .inr h1
    · simp only [fput, e, if_false] at hb
      exact .inl ⟨j, hj, hb⟩
  obtain ⟨h1, h2⟩ := hs2.fresh M.le (fun b ⟨j, hj, hb⟩ => M.new j hj b hb)
  refine ⟨rfl, fq, fun b => G b ≠ none ∧ Z b, ⟨h1, fun j hj => ?_, fun j hj b hb => ?_, fun j hj b hb => h2 b ⟨j, hj, hb⟩, fun j k b hj hk hjk hb hb2 => ?_⟩, hs2, fun b hb => ⟨hb.2, ?_⟩⟩
  · by_cases e : j = i
    · subst e
      simp only [fput, if_true]
      refine hr.le (fun b o hb => ?_)
      by_cases hz : Z b
      · rw [only_of hz] at hb
        rw [only_of ⟨by rw [hb]; simp, hz⟩]
        exact PH.and_left hb
      · rw [only_not hz] at hb; cases hb
    · simp only [fput, e, if_false]
      refine (M.rep j hj).le (fun b o hb => ?_)
      by_cases hx : X j b
      · rw [only_of hx] at hb ⊢
        exact key b o hb (fun hp => M.sep i j b hi hj (Ne.symm e) hp hx)
      · rw [only_not hx] at hb; cases hb
  · by_cases e : j = i
    · simp only [fput, e, if_true] at hb
      cases hg : G b with
      | none => exact absurd hg hb.1
      | some o => rw [PH.and_left hg]; simp
    · simp only [fput, e, if_false] at hb
      have := M.dom j hj b hb
      cases hf : F b with
      | none => exact absurd hf this
      | some o => rw [key b o hf (fun hp => M.sep i j b hi hj (Ne.symm e) hp hb)]; simp
  · by_cases e : j = i
    · simp only [fput, e, if_true] at hb
      have e2 : k ≠ i := fun e2 => hjk (by rw [e, e2])
      simp only [fput, e2, if_false] at hb2
      rcases hq b hb with h3 | h3
      · exact M.sep i k b hi hk (Ne.symm e2) h3 hb2
      · exact M.dom k hk b hb2 h3
    · simp only [fput, e, if_false] at hb
      by_cases e2 : k = i
      · simp only [fput, e2, if_true] at hb2
        have hx : ¬ (X i b ∨ A b) := by
          rintro (hx | hx)
          · exact M.sep j i b hj hi e hb hx
          · exact (hA b hx).2 ⟨j, hj, hb⟩
        cases hf : F b with
        | none => exact (M.all hj).dom b hb hf
        | some o => exact hb2.1 (hdis b o (by rw [mns_of hx]; exact hf))
      · simp only [fput, e2, if_false] at hb2
        exact M.sep j k b hj hk hjk hb hb2
  · by_cases hx : X i b ∨ A b
    · rcases hx with hx | hx
      · exact .inl hx
      · exact .inr (.inl hx)
    · cases hf : F b with
      | none => exact .inr (.inr rfl)
      | some o => exact absurd (hdis b o (by rw [mns_of hx]; exact hf)) hb.1
theorem Isl.op (M : Isl F0 F n N I X FP S) {i : Nat} (hi : i < N) {A : Nat → Prop} (hA : ∀ b, A b → F b ≠ none ∧ ¬ allF N FP b) {k : FuncId} {args : Array Value} {u : Value} {s' : DS}
    (hs : Spec prog k args (only F (fun b => X i b ∨ A b)) fun v G => v = u ∧ ∃ fq, DRep G (I i) fq n s' ∧ Step (FP i) (only F (fun b => X i b ∨ A b)) fq G) :
    Spec prog k args F fun v F' => v = u ∧ ∃ fq X', Isl F0 F' n N I (fput X i X') (fput FP i fq) (fput S i s') ∧ Step (allF N FP) F (allF N (fput FP i fq)) F' :=
  (M.opZ (Z := fun _ => True) hi hA (hs.mono fun v G ⟨h1, fq, h2, h3⟩ => ⟨h1, fq, h2.le (fun b o hb => by rw [only_of trivial]; exact hb), h3⟩)).mono fun _ _ ⟨h1, fq, X', h2, h3, _⟩ => ⟨h1, fq, X', h2, h3⟩

theorem Isl.own (M : Isl F0 F n N I X FP S) {i : Nat} (hi : i < N) {A : Nat → Prop} : DRep (only F (fun b => X i b ∨ A b)) (I i) (FP i) n (S i) := (M.rep i hi).le (only_mono (fun _ h => .inl h))
theorem Isl.write (M : Isl F0 F n N I X FP S) {i : Nat} (hi : i < N) {x : Sl} {at_ : Int} {l : List Int} (hr : RdS (mns F (allF N FP)) x 1 (u8s l)) (hwl : (S i).ws.length < 1000) (hll : l.length ≤ 9223372036854775807) :
    Spec prog 14 #[.pointer (some ⟨I i, 0, none⟩), .int .i64 at_, x.v] F fun v F' => v = .int .i64 ((S i).write n at_ l).2 ∧ ∃ fq X', Isl F0 F' n N I (fput X i X') (fput FP i fq) (fput S i ((S i).write n at_ l).1) ∧ Step (allF N FP) F (allF N (fput FP i fq)) F' := by
  have h := hr.only (fp := FP i) (X := X i) (by decide) (fun b hb => ⟨i, hi, hb⟩)
  exact M.op hi h.2 (write_spec (M.own hi) h.1 hwl hll)
theorem Isl.crash (M : Isl F0 F n N I X FP S) {i : Nat} (hi : i < N) {x : Sl} {kl : List Int} (hr : RdS (mns F (allF N FP)) x 1 (i64s kl)) :
    Spec prog 19 #[.pointer (some ⟨I i, 0, none⟩), x.v] F fun v F' => v = .tuple #[] ∧ ∃ fq X', Isl F0 F' n N I (fput X i X') (fput FP i fq) (fput S i ((S i).crash kl)) ∧ Step (allF N FP) F (allF N (fput FP i fq)) F' := by
  have h := hr.only (fp := FP i) (X := X i) (by decide) (fun b hb => ⟨i, hi, hb⟩)
  exact M.op hi h.2 (crash_spec (M.own hi) h.1)
theorem Isl.fuse (M : Isl F0 F n N I X FP S) {i : Nat} (hi : i < N) {k : Int} {x : Sl} {kl : List Int} (hk : k ≤ 9223372036854775807) (hr : RdS (mns F (allF N FP)) x 1 (i64s kl)) (hfit : x.len * 8 ≤ 140737488355328) :
    Spec prog 29 #[.pointer (some ⟨I i, 0, none⟩), .int .i64 k, x.v] F fun v F' => v = .tuple #[] ∧ ∃ fq X', Isl F0 F' n N I (fput X i X') (fput FP i fq) (fput S i ((S i).setFuse k kl)) ∧ Step (allF N FP) F (allF N (fput FP i fq)) F' ∧ ∀ b, X' b → FP i b ∨ F b = none := by
  have h := hr.only (fp := FP i) (X := X i) (by decide) (fun b hb => ⟨i, hi, hb⟩)
  refine (M.opZ (Z := fun b => FP i b ∨ only F (fun b => X i b ∨ rowB x b) b = none) hi h.2 ((fuse_new (M.own hi) hk (h.1.le (mns_le _ _)) hfit).mono fun v G ⟨h1, h2, h3⟩ => ⟨h1, _, h2.le (fun b o hb => ?_), h3⟩)).mono fun v F' ⟨h1, fq, X', h2, h3, h4⟩ => ⟨h1, fq, X', h2, h3, fun b hb => ?_⟩
  · by_cases hp : old (only F (fun b => X i b ∨ rowB x b)) b ∧ ¬ FP i b
    · simp [mns, hp] at hb
    · rw [mns_of hp] at hb
      rw [only_of]
      · exact hb
      · by_cases hq : FP i b
        · exact .inl hq
        · right
          exact Classical.byContradiction fun hn => hp ⟨hn, hq⟩
  · obtain ⟨h5, h6⟩ := h4 b hb
    rcases h5 with h5 | h5
    · exact .inl h5
    · right
      rcases h6 with h6 | h6 | h6
      · rw [only_of (.inl h6)] at h5; exact h5
      · rw [only_of (.inr h6)] at h5; exact h5
      · exact h6
theorem Isl.flush (M : Isl F0 F n N I X FP S) {i : Nat} (hi : i < N) :
    Spec prog 17 #[.pointer (some ⟨I i, 0, none⟩)] F fun v F' => v = .int .i64 (S i).flush.2 ∧ ∃ fq X', Isl F0 F' n N I (fput X i X') (fput FP i fq) (fput S i (S i).flush.1) ∧ Step (allF N FP) F (allF N (fput FP i fq)) F' :=
  M.op (A := fun _ => False) hi (fun _ h => h.elim) (flush_spec (M.own hi))
theorem Isl.power (M : Isl F0 F n N I X FP S) {i : Nat} (hi : i < N) :
    Spec prog 20 #[.pointer (some ⟨I i, 0, none⟩)] F fun v F' => v = .tuple #[] ∧ ∃ fq X', Isl F0 F' n N I (fput X i X') (fput FP i fq) (fput S i (S i).power) ∧ Step (allF N FP) F (allF N (fput FP i fq)) F' :=
  M.op (A := fun _ => False) hi (fun _ h => h.elim) ((power_spec (M.own hi)).mono fun _ _ ⟨h1, h2, h3⟩ => ⟨h1, _, h2, h3⟩)
theorem Isl.copy (M : Isl F0 F n N I X FP S) {i : Nat} (hi : i < N) (hk : (S i).kept.length * 8 ≤ 140737488355328) :
    Spec prog 27 #[.pointer (some ⟨I i, 0, none⟩)] F fun v F' => ∃ c fq X', v = .pointer (some ⟨c, 0, none⟩) ∧ F.le F' ∧ Isl F0 F' n (N + 1) (fput I N c) (fput X N X') (fput FP N fq) (fput S N (S i)) ∧ Step (allF N FP) F (allF (N + 1) (fput FP N fq)) F' :=
  (copy_new (M.all hi) hk).mono fun _ _ ⟨c, fq, hv, hle, hr, hn⟩ => by
    obtain ⟨X', h1, h2⟩ := M.more hle hr hn
    exact ⟨c, fq, X', hv, hle, h1, h2⟩
/-- The first disk. -/
theorem Isl.one {d : Nat} {fp : Nat → Prop} {s : DS} (hle : F0.le F) (hr : DRep F d fp n s) (hk : s.kept = []) (hn : ∀ b, fp b → F0 b = none) : Isl F0 F n 1 (fun _ => d) (fun _ => fp) (fun _ => fp) (fun _ => s) :=
  ⟨hle, fun _ _ => hr.keep0 hk (fun b hb => only_of hb), fun _ _ => hr.dom, fun _ _ => hn, fun i j b hi hj hij => absurd (by omega) hij⟩
/-- A disk without a kept list reads its own blocks only. -/
theorem Isl.shrink (M : Isl F0 F n N I X FP S) {i : Nat} (hi : i < N) (hk : (S i).kept = []) : Isl F0 F n N I (fput X i (FP i)) FP S := by
  refine ⟨M.le, fun j hj => ?_, fun j hj b hb => ?_, M.new, fun j k b hj hk2 hjk hb hb2 => ?_⟩
  · by_cases e : j = i
    · subst e
      simp only [fput, if_true]
      exact (M.all hj).keep0 hk (fun b hb => only_of hb)
    · simp only [fput, e, if_false]; exact M.rep j hj
  · by_cases e : j = i
    · simp only [fput, e, if_true] at hb; exact (M.all hi).dom b hb
    · simp only [fput, e, if_false] at hb; exact M.dom j hj b hb
  · by_cases e : k = i
    · simp only [fput, e, if_true] at hb2; exact M.sep j k b hj hk2 hjk hb (by rw [e]; exact M.inX hi hb2)
    · simp only [fput, e, if_false] at hb2; exact M.sep j k b hj hk2 hjk hb hb2
/-- A store beside all disks. -/
theorem Isl.poke (M : Isl F0 F n N I X FP S) {g : Nat} {o : Obj} (h0 : F0 g = none) (hg : ∀ i, i < N → ¬ X i g) : Isl F0 (F.set g o) n N I X FP S := by
  refine ⟨fun b o' hb => ?_, fun i hi => (M.rep i hi).le (fun b o' hb => ?_), fun i hi b hb => ?_, M.new, M.sep⟩
  · rw [set_ne _ _ (fun e => by rw [e, h0] at hb; cases hb)]
    exact M.le b o' hb
  · by_cases hx : X i b
    · rw [only_of hx] at hb ⊢
      rw [set_ne _ _ (by rintro rfl; exact hg i hi hx)]
      exact hb
    · rw [only_not hx] at hb; cases hb
  · rw [set_ne _ _ (by rintro rfl; exact hg i hi hb)]
    exact M.dom i hi b hb
/-- Disk j is left behind. -/
theorem Isl.less (M : Isl F0 F n (N + 1) I X FP S) : Isl F0 F n N I X FP S ∧ Step (allF (N + 1) FP) F (allF N FP) F :=
  ⟨⟨M.le, fun i hi => M.rep i (by omega), fun i hi => M.dom i (by omega), fun i hi => M.new i (by omega), fun i j b hi hj => M.sep i j b (by omega) (by omega)⟩,
    ⟨Keep.refl _ _, fun b ⟨i, hi, hb⟩ => .inl ⟨i, by omega, hb⟩⟩⟩
end
end Go.Proofs.Ythnolhcknhhipaa
