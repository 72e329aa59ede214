/-
  The reference's diagrams: the list of different branches, an operation on two diagrams.
-/
import Derived.Test.YtafojmoeaneedaaEx
namespace Go.Proofs.Ytafojmoeaneedaa
open Go Go.Proofs.Try Tr
set_option maxRecDepth 10000

theorem OwnS.keepK {F G : PH} {e size : Nat} {s : Sl} {vs : List Value} {fp : Nat → Prop} (h : OwnS F e size s vs) (hk : Keep fp F G) (hn : ∀ a, s.base = some a → ¬ fp a.block) : OwnS G e size s vs := by
  rcases h with h | ⟨b, cur, h1, h2, h3⟩
  · exact .inl h
  · exact .inr ⟨b, cur, h1, hk _ _ h2 (hn _ h1), h3⟩

section
variable {F0 F : PH} {l : Sl} {S : List Tr}
theorem unique_spec (hle : F0.le F) (ho : OwnS F 72 3 l (bflat (brs S))) (hb : ∀ a, l.base = some a → F0 a.block = none) (hS : Cl S) {v : Nat} {A B : Tr} (hA : inn S A) (hB : inn S B) (hf : Fit (S.length + 4)) :
    Spec prog 105 #[l.v, .agg (barr ⟨(v : Int), (num S A : Int), (num S B : Int)⟩)] F fun r F' => ∃ l', r = .tuple #[l'.v, vi (num (addT S (mk v A B)) (mk v A B))] ∧ F0.le F' ∧ OwnS F' 72 3 l' (bflat (brs (addT S (mk v A B)))) ∧
      (∀ a, l'.base = some a → F0 a.block = none) ∧ Keep (fun b => ∃ a, l.base = some a ∧ a.block = b) F F' := by
  have hlen := ho.rd.blen
  rw [brs_length] at hlen
  refine c105 ?_
  unfold b105
  intro b3 hb3
  refine atI ?_
  have l3 := le_set_fresh (.cells (barr ⟨(v : Int), (num S A : Int), (num S B : Int)⟩) 72) hb3
  have q3 := set_eq F b3 (.cells (barr ⟨(v : Int), (num S A : Int), (num S B : Int)⟩) 72)
  have n3 : ∀ a, l.base = some a → a.block ≠ b3 := fun a ha => by
    obtain ⟨cur, hcur⟩ := ho.elem ha
    exact ne_of_fresh hb3 hcur
  replace ho := ho.upto l3
  replace hle := hle.trans l3
  generalize F.set b3 (.cells (barr ⟨(v : Int), (num S A : Int), (num S B : Int)⟩) 72) = F1 at *
  refine ⟨_, by rw [cell_eq q3]; rfl, _, by rw [cell_eq q3]; rfl, fun he => ?_, fun he => ?_⟩
  · obtain rfl := num_inj hA hB (by have : (num S A : Int) = num S B := he; omega)
    have e : mk v A A = A := by simp [mk]
    have e2 : addT S A = S := by unfold addT; rw [if_pos hA]
    rw [e, e2]
    exact ⟨_, by rw [cell_eq q3]; rfl, l, rfl, hle, ho, hb, Keep.of_le l3⟩
  have hAB : A ≠ B := fun e => he (by rw [e])
  have emk : mk v A B = node v A B := by simp [mk, hAB]
  rw [emk]
  have hbr : br S (node v A B) = ⟨(v : Int), (num S A : Int), (num S B : Int)⟩ := rfl
  refine ⟨fun m i F' => ∃ k : Nat, i = k ∧ k ≤ S.length ∧ m = S.length - k ∧ F' = F1 ∧ br S (node v A B) ∉ (brs S).take k, S.length, ⟨0, rfl, by omega, rfl, rfl, by simp⟩, ?_⟩
  rintro m i F' ⟨k, rfl, hk, rfl, rfl, hnot⟩
  unfold b105L1
  refine ⟨fun hlt => ?_, fun hge => ?_⟩
  · have hkS : k < S.length := by omega
    have hkB : k < (brs S).length := by rw [brs_length]; exact hkS
    obtain ⟨p, hp, hpr, _⟩ := rdb ho.rd (List.getElem?_eq_getElem hkB)
    refine ⟨p, hp, by omega, hlt, barr (brs S)[k], rfl, by simpa using hpr, barr (br S (node v A B)), rfl, row_whole q3, decide ((brs S)[k] = br S (node v A B)), fun F => eqBr (brs S)[k] (br S (node v A B)) F, fun heq => ?_, fun hne => ?_⟩
    · have heq' : (brs S)[k] = br S (node v A B) := of_decide_eq_true heq
      have hm : node v A B ∈ S := (mem_brs hS hA hB).1 (by rw [← heq']; exact List.getElem_mem _)
      have hSk : S[k] = node v A B := br_inj hS (List.getElem_mem hkS) hm (by rw [← heq']; simp [brs])
      have e2 : addT S (node v A B) = S := by unfold addT; rw [if_pos (.inr hm)]
      have hn := num_of_get hS (k := k) (t := node v A B) (by rw [List.getElem?_eq_getElem hkS, hSk])
      have hw : IntKind.i64.wrap ((k : Int) + 2) = ((k + 2 : Nat) : Int) := by rw [w64_eq (by omega) (by omega)]; omega
      rw [e2, hn, hw]
      exact ⟨l, rfl, hle, ho, hb, Keep.of_le l3⟩
    · refine ⟨S.length - (k + 1), by omega, k + 1, w64s (by omega), by omega, rfl, rfl, ?_⟩
      rw [List.take_succ_eq_append_getElem hkB]
      intro hc
      rcases List.mem_append.1 hc with hc | hc
      · exact hnot hc
      · rw [List.mem_singleton] at hc
        rw [hc] at hne
        simp at hne
  · have hk' : k = S.length := by omega
    have hm : node v A B ∉ S := fun hm => hnot (by
      rw [hk', List.take_of_length_le (by rw [brs_length]; omega)]
      exact (mem_brs hS hA hB).2 hm)
    have e2 : addT S (node v A B) = S ++ [node v A B] := by
      unfold addT
      rw [if_neg]
      rintro (hc | hc)
      · cases hc
      · exact hm hc
    rw [e2]
    unfold b105j1
    refine ⟨barr (br S (node v A B)), rfl, row_whole q3, rfl, fun b32 hb32 => ?_⟩
    refine atI ?_
    have l32 := le_set_fresh (.cells (barr (br S (node v A B))) 72) hb32
    have q32 := set_eq F' b32 (.cells (barr (br S (node v A B))) 72)
    have ho2 := ho.upto l32
    have hle2 := hle.trans l32
    generalize F'.set b32 (.cells (barr (br S (node v A B))) 72) = F2 at *
    refine own_app underlying26 sz72 zr72 rfl (by decide) hle2 ho2 hb (x := ⟨some ⟨b32, 0, none⟩, 1, 1⟩) (news := bcells (br S (node v A B))) (RdS.new q32 rfl rfl (Nat.le_refl _)) (fun x hx => st_bflat [br S (node v A B)] x (by simpa [bflat] using hx)) (by simp only [hlen]; omega) (by simp only [hlen]; omega) ?_
    intro s' F3 hle3 ho3 hlen3 hs3 hk3 _
    have hw : IntKind.i64.wrap ((s'.len : Int) + 1) = ((S.length + 2 : Nat) : Int) := by rw [hlen3, hlen, w64_eq (by simp only; omega) (by simp only; omega)]; simp only; omega
    have e3 : bflat (brs (S ++ [node v A B])) = bflat (brs S) ++ bcells (br S (node v A B)) := by
      rw [brs_snoc hS hA hB, ← hbr, bflat_append]
      simp [bflat]
    refine ⟨s', rfl, s', ?_, hle3, by rw [e3]; exact ho3, hs3, fun x ob hx hn => hk3 _ _ (l32 _ _ (l3 _ _ hx)) hn⟩
    rw [hw]
    have hl2 : num (S ++ [node v A B]) (node v A B) = S.length + 2 := by
      simp only [num, List.idxOf_append, if_neg hm]
      simp
    rw [hl2]
end
end Go.Proofs.Ytafojmoeaneedaa
