/-
  The disk: one operation, of any kind; the law DiskCopies.
-/
import Derived.Test.YthnolhcknhhipaaDm
namespace Go.Proofs.Ythnolhcknhhipaa
open Go Go.Proofs.Try

def DS.doOp (s : DS) (n : Nat) (o : OpD) : DS × Int :=
  if Int.tmod o.kind 10 = 4 then s.flush else if Int.tmod o.kind 10 = 5 then (s.crash o.kept, 0) else if Int.tmod o.kind 10 = 6 then (s.power, 0)
  else if Int.tmod o.kind 10 = 7 then (s.setFuse o.at_ o.kept, 0) else if Int.tmod o.kind 10 = 8 then (s, 0) else if Int.tmod o.kind 10 = 9 then (s, 0) else s.write n o.at_ (opData o)
structure OpOk (F : PH) (o : OpD) : Prop where
  rd : RdS F o.ksl 1 (i64s o.kept)
  kl : o.ksl.len * 8 ≤ 140737488355328
  at_ : o.at_ ≤ 9223372036854775807
theorem OpsRd.ok {F : PH} {l : Sl} {ops : List OpD} (h : OpsRd F l ops) {k : Nat} (hk : k < ops.length) : OpOk F ops[k] :=
  ⟨h.kept _ (List.getElem_mem _), h.kl _ (List.getElem_mem _), (h.at_ _ (List.getElem_mem _)).2⟩
section
variable {F0 F G : PH} {n N : Nat} {I : Nat → Nat} {X FP : Nat → Nat → Prop} {S : Nat → DS}
theorem Isl.congr {I' : Nat → Nat} {X' FP' : Nat → Nat → Prop} {S' : Nat → DS} (M : Isl F0 F n N I X FP S) (h : ∀ j, j < N → I j = I' j ∧ X j = X' j ∧ FP j = FP' j ∧ S j = S' j) : Isl F0 F n N I' X' FP' S' := by
  refine ⟨M.le, fun i hi => ?_, fun i hi => ?_, fun i hi => ?_, fun i j b hi hj hij => ?_⟩
  · obtain ⟨h1, h2, h3, h4⟩ := h i hi
    rw [← h1, ← h2, ← h3, ← h4]
    exact M.rep i hi
  · rw [← (h i hi).2.1]; exact M.dom i hi
  · rw [← (h i hi).2.2.1]; exact M.new i hi
  · rw [← (h i hi).2.2.1, ← (h j hj).2.1]
    exact M.sep i j b hi hj hij
theorem allF_congr {FP' : Nat → Nat → Prop} (h : ∀ j, j < N → FP j = FP' j) : allF N FP = allF N FP' := by
  funext b
  apply propext
  constructor
  · rintro ⟨i, hi, hb⟩; exact ⟨i, hi, by rw [← h i hi]; exact hb⟩
  · rintro ⟨i, hi, hb⟩; exact ⟨i, hi, by rw [h i hi]; exact hb⟩
/-- The last disk takes the place of disk i. -/
theorem Isl.take (M : Isl F0 F n (N + 1) I X FP S) {i : Nat} (hi : i < N) : Isl F0 F n N (fput I i (I N)) (fput X i (X N)) (fput FP i (FP N)) (fput S i (S N)) ∧ Step (allF (N + 1) FP) F (allF N (fput FP i (FP N))) F := by
  refine ⟨⟨M.le, fun j hj => ?_, fun j hj => ?_, fun j hj => ?_, fun j k b hj hk hjk => ?_⟩, Keep.refl _ _, fun b ⟨j, hj, hb⟩ => .inl ?_⟩
  · by_cases e : j = i
    · simp only [fput, e, if_true]; exact M.rep N (by omega)
    · simp only [fput, e, if_false]; exact M.rep j (by omega)
  · by_cases e : j = i
    · simp only [fput, e, if_true]; exact M.dom N (by omega)
    · simp only [fput, e, if_false]; exact M.dom j (by omega)
  · by_cases e : j = i
    · simp only [fput, e, if_true]; exact M.new N (by omega)
    · simp only [fput, e, if_false]; exact M.new j (by omega)
  · by_cases e : j = i
    · have e2 : k ≠ i := fun e2 => hjk (by rw [e, e2])
      simp only [fput, e, e2, if_true, if_false]; exact M.sep N k b (by omega) (by omega) (by omega)
    · by_cases e2 : k = i
      · simp only [fput, e, e2, if_true, if_false]; exact M.sep j N b (by omega) (by omega) (by omega)
      · simp only [fput, e, e2, if_false]; exact M.sep j k b (by omega) (by omega) hjk
  · by_cases e : j = i
    · simp only [fput, e, if_true] at hb; exact ⟨N, by omega, hb⟩
    · simp only [fput, e, if_false] at hb; exact ⟨j, by omega, hb⟩
theorem fput_same {α : Type} (f : Nat → α) (i : Nat) : fput f i (f i) = f := by
  funext j
  by_cases e : j = i
  · simp [fput, e]
  · simp [fput, e]

theorem Isl.doOp (M : Isl F0 F n N I X FP S) {i : Nat} (hi : i < N) {o : OpD} (ho : OpOk F0 o) (hk : (S i).kept.length * 8 ≤ 140737488355328) (hw : (S i).ws.length < 1000) :
    Spec prog 23 #[.pointer (some ⟨I i, 0, none⟩), .agg o.cells.toArray] F fun v F' => ∃ d' fq X', v = .tuple #[.pointer (some ⟨d', 0, none⟩), .int .i64 ((S i).doOp n o).2] ∧
      Isl F0 F' n N (fput I i d') (fput X i X') (fput FP i fq) (fput S i ((S i).doOp n o).1) ∧ Step (allF N FP) F (allF N (fput FP i fq)) F' := by
  refine c23 ?_
  unfold b23
  intro b3 hb3
  refine atI ?_
  have hle := le_set_fresh (.cells o.cells.toArray 40) hb3
  have hM := M.ext hle
  have hc : (F.set b3 (.cells o.cells.toArray 40)) b3 = some (.cells o.cells.toArray 40 (0, 0)) := set_eq _ _ _
  generalize F.set b3 (.cells o.cells.toArray 40) = F1 at *
  obtain ⟨M1, hs1⟩ := hM
  have hkr : RdS (mns F1 (allF N FP)) o.ksl 1 (i64s o.kept) := ho.rd.le (le_mns_new M1.le (fun b ⟨j, hj, hb⟩ => M1.new j hj b hb))
  have c0 : F1.cell ⟨b3, 0, none⟩ = some (.int .u8 o.kind) := by rw [cell_eq hc]; rfl
  have c1 : F1.cell ⟨b3, 1, none⟩ = some (.int .i64 o.at_) := by rw [cell_eq hc]; rfl
  have c4 : F1.cell ⟨b3, 4, none⟩ = some (Sl.v o.ksl) := by rw [cell_eq hc]; rfl
  refine ⟨_, c0, fun k4 => ?_, fun k4 => ⟨fun k5 => ?_, fun k5 => ⟨fun k6 => ?_, fun k6 => ⟨fun k7 => ?_, fun k7 => ⟨fun k8 => ?_, fun k8 => ⟨fun k9 => ?_, fun k9 => ?_⟩⟩⟩⟩⟩⟩
  · have e : (S i).doOp n o = (S i).flush := by unfold DS.doOp; rw [if_pos k4]
    rw [e]
    refine (M1.flush hi).mono ?_
    rintro v F2 ⟨rfl, fq, X', M2, hs2⟩
    exact ⟨_, rfl, I i, fq, X', rfl, by rw [fput_same]; exact M2, hs1.trans hs2⟩
  · have e : (S i).doOp n o = ((S i).crash o.kept, 0) := by unfold DS.doOp; rw [if_neg k4, if_pos k5]
    rw [e]
    refine ⟨_, c4, ?_⟩
    refine (M1.crash hi hkr).mono ?_
    rintro v F2 ⟨rfl, fq, X', M2, hs2⟩
    exact ⟨rfl, I i, fq, X', rfl, by rw [fput_same]; exact M2, hs1.trans hs2⟩
  · have e : (S i).doOp n o = ((S i).power, 0) := by unfold DS.doOp; rw [if_neg k4, if_neg k5, if_pos k6]
    rw [e]
    refine (M1.power hi).mono ?_
    rintro v F2 ⟨rfl, fq, X', M2, hs2⟩
    exact ⟨rfl, I i, fq, X', rfl, by rw [fput_same]; exact M2, hs1.trans hs2⟩
  · have e : (S i).doOp n o = ((S i).setFuse o.at_ o.kept, 0) := by unfold DS.doOp; rw [if_neg k4, if_neg k5, if_neg k6, if_pos k7]
    rw [e]
    refine ⟨_, c1, _, c4, ?_⟩
    refine (M1.fuse hi ho.at_ hkr ho.kl).mono ?_
    rintro v F2 ⟨rfl, fq, X', M2, hs2, _⟩
    exact ⟨rfl, I i, fq, X', rfl, by rw [fput_same]; exact M2, hs1.trans hs2⟩
  · have e : (S i).doOp n o = (S i, 0) := by unfold DS.doOp; rw [if_neg k4, if_neg k5, if_neg k6, if_neg k7, if_pos k8]
    rw [e]
    refine (M1.copy hi hk).mono ?_
    rintro v F2 ⟨c, fc, Xc, rfl, _, M2, hs2⟩
    refine ⟨_, rfl, fun h => (by cases h), fun _ => ?_⟩
    refine (filled_new F2).mono ?_
    rintro v F3 ⟨sl, rfl, _, _, hf, hle3⟩
    have hrow := M2.rowStep hf
    have hs3 := hs2.trans (M2.ext hle3).2
    have M3 := (M2.ext hle3).1
    refine ⟨sl, rfl, ?_⟩
    have hiN : i ≠ N := by omega
    have hI : (fput I N c) i = I i := by simp [fput, hiN]
    have hS : (fput S N (S i)) i = S i := by simp [fput, hiN]
    rw [← hI]
    refine (M3.write (i := i) (by omega) (at_ := 0) hrow (by rw [hS]; exact hw) (by simp)).mono ?_
    rintro v F4 ⟨rfl, f1, X1, M4, hs4⟩
    refine ⟨_, rfl, ?_⟩
    refine (M4.crash (i := i) (by omega) (x := Sl.nil) (kl := []) (RdS.nil _ _)).mono ?_
    rintro v F5 ⟨rfl, f2, X2, M5, hs5⟩
    obtain ⟨M6, hs6⟩ := M5.take hi
    have hN : N ≠ i := Ne.symm hiN
    refine ⟨rfl, c, fc, Xc, rfl, M6.congr (fun j hj => ?_), ?_⟩
    · by_cases e : j = i
      · simp [fput, e, hN]
      · simp [fput, e, show j ≠ N by omega]
    · have h7 := ((((hs1.trans hs3).trans hs4).trans hs5).trans hs6)
      have e7 : allF N (fput (fput (fput (fput FP N fc) i f1) i f2) i (fput (fput (fput FP N fc) i f1) i f2 N)) = allF N (fput FP i fc) := allF_congr (fun j hj => by
        by_cases e : j = i
        · simp [fput, e, hN]
        · simp [fput, e, show j ≠ N by omega])
      rw [← e7]
      exact h7
  · have e : (S i).doOp n o = (S i, 0) := by unfold DS.doOp; rw [if_neg k4, if_neg k5, if_neg k6, if_neg k7, if_neg k8, if_pos k9]
    rw [e]
    refine (M1.copy hi hk).mono ?_
    rintro v F2 ⟨c, fc, Xc, rfl, _, M2, hs2⟩
    refine ⟨_, rfl, fun h => (by cases h), fun _ => ?_⟩
    have hI : (fput I N c) N = c := by simp [fput]
    have hS : (fput S N (S i)) N = S i := by simp [fput]
    rw [← hI]
    refine (M2.power (i := N) (by omega)).mono ?_
    rintro v F3 ⟨rfl, f1, X1, M3, hs3⟩
    refine ⟨rfl, ?_⟩
    refine (filled_new F3).mono ?_
    rintro v F4 ⟨sl, rfl, _, _, hf, hle4⟩
    have hrow := M3.rowStep hf
    have hs4 := (M3.ext hle4).2
    have M4 := (M3.ext hle4).1
    refine ⟨sl, rfl, ?_⟩
    refine (M4.write (i := N) (by omega) (at_ := 0) hrow (by simp [fput, DS.power]; exact hw) (by simp)).mono ?_
    rintro v F5 ⟨rfl, f2, X2, M5, hs5⟩
    refine ⟨_, rfl, ?_⟩
    refine (M5.flush (i := N) (by omega)).mono ?_
    rintro v F6 ⟨rfl, f3, X3, M6, hs6⟩
    obtain ⟨M7, hs7⟩ := M6.less
    refine ⟨_, rfl, I i, FP i, X i, rfl, M7.congr (fun j hj => ?_), ?_⟩
    · by_cases e : j = i
      · simp [fput, e, show i ≠ N by omega]
      · simp [fput, e, show j ≠ N by omega]
    · have h8 := (((((hs1.trans hs2).trans hs3).trans hs4).trans hs5).trans hs6).trans hs7
      have e7 : allF N (fput (fput (fput (fput FP N fc) N f1) N f2) N f3) = allF N (fput FP i (FP i)) := allF_congr (fun j hj => by
        rw [fput_same]
        simp [fput, show j ≠ N by omega])
      rw [← e7]
      exact h8
  · have e : (S i).doOp n o = (S i).write n o.at_ (opData o) := by unfold DS.doOp; rw [if_neg k4, if_neg k5, if_neg k6, if_neg k7, if_neg k8, if_neg k9]
    rw [e]
    refine ⟨_, c1, o.cells.toArray, rfl, ?_, ?_⟩
    · intro j hj
      rw [add_mk, cell_eq hc]
      simp
    refine (data_spec F1 o).mono ?_
    rintro v F2 ⟨sl, rfl, _, _, hf, hle2⟩
    have hrow := M1.rowStep hf
    have hs2 := hs1.trans (M1.ext hle2).2
    have M2 := (M1.ext hle2).1
    refine ⟨sl, rfl, le_cell hle2 c1, ?_⟩
    refine (M2.write hi hrow hw (by rw [opData_len]; have := opLen_le o; omega)).mono ?_
    rintro v F3 ⟨rfl, fq, X', M3, hs3⟩
    exact ⟨_, rfl, I i, fq, X', rfl, by rw [fput_same]; exact M3, hs2.trans hs3⟩
end

/-! bounds along operations -/
theorem DS.doOp_ws (s : DS) (n : Nat) (o : OpD) : (s.doOp n o).1.ws.length ≤ s.ws.length + 1 := by
  unfold DS.doOp
  split
  · have := s.flush_ws; omega
  · split
    · unfold DS.crash; split <;> simp
    · split
      · exact Nat.le_succ _
      · split
        · exact Nat.le_succ _
        · split
          · exact Nat.le_succ _
          · split
            · exact Nat.le_succ _
            · exact s.write_ws n _ _
theorem DS.crash_kept (s : DS) (K : List Int) : (s.crash K).kept.length ≤ s.kept.length := by
  unfold DS.crash; split <;> simp
theorem DS.ready_kept (s : DS) : s.ready.1.kept.length ≤ s.kept.length := by
  unfold DS.ready
  split
  · exact Nat.le_refl _
  · split
    · exact s.crash_kept _
    · exact Nat.le_refl _
theorem DS.doOp_kept {F : PH} (s : DS) (n : Nat) {o : OpD} (ho : OpOk F o) (hk : s.kept.length * 8 ≤ 140737488355328) : (s.doOp n o).1.kept.length * 8 ≤ 140737488355328 := by
  have h1 := s.ready_kept
  have h2 := ho.rd.len
  have h3 := ho.kl
  simp at h2
  unfold DS.doOp
  split
  · unfold DS.flush; split
    · omega
    · simp; omega
  · split
    · have := s.crash_kept o.kept; simp only; omega
    · split
      · exact hk
      · split
        · simp only [DS.setFuse]; omega
        · split
          · exact hk
          · split
            · exact hk
            · unfold DS.write; split
              · exact hk
              · split
                · omega
                · simp; omega
end Go.Proofs.Ythnolhcknhhipaa
