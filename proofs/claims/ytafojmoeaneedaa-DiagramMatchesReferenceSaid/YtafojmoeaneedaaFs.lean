/-
  The reference: operations.
-/
import Derived.Test.YtafojmoeaneedaaFa
import Derived.Test.YtafojmoeaneedaaFh
import Derived.Test.YtafojmoeaneedaaFr
import Derived.Test.YtafojmoeaneedaaEr
import Derived.Test.YtafojmoeaneedaaGq
namespace Go.Proofs.Ytafojmoeaneedaa
open Go Go.Proofs.Try Tr
set_option maxRecDepth 10000

theorem int_num0 {S : List Tr} {t : Tr} : ((num S t : Nat) : Int) = 0 ↔ t = leaf false := by
  rw [← num_zero (S := S)]
  omega
abbrev Few (d : Dia) : Prop := d.1.length ≤ 40
theorem f2_of {o : Op2} {a b : Tr} (ka : a.ok) (kb : b.ok) (la : (subs a).length ≤ 100000) (lb : (subs b).length ≤ 100000) : F2 o a b := by
  have h1 : ((subs a).length + 2) * ((subs b).length + 2) ≤ 100002 * 100002 := Nat.mul_le_mul (by omega) (by omega)
  have h2 := ap_length (o := fun x y _ => o x y) ka kb (d := leaf false) trivial
  have e0 : (subs (leaf false)).length = 0 := by simp [subs, vis]
  rw [e0] at h2
  have h3 : ((subs a).length + 2) * (((subs b).length + 2) * (0 + 2)) ≤ 100002 * (100002 * 2) := Nat.mul_le_mul (by omega) (Nat.mul_le_mul (by omega) (by omega))
  exact ⟨ka, kb, by omega, by omega, by omega, by show (subs (ap (fun x y _ => o x y) a b (leaf false))).length + 4 ≤ _; omega⟩
theorem ap2_length {o : Op2} {a b : Tr} (ka : a.ok) (kb : b.ok) : (subs (ap2 o a b)).length ≤ ((subs a).length + 2) * (((subs b).length + 2) * 2) := by
  have h2 := ap_length (o := fun x y _ => o x y) ka kb (d := leaf false) trivial
  have e0 : (subs (leaf false)).length = 0 := by simp [subs, vis]
  rw [e0] at h2
  exact h2
theorem few_subs {d : Dia} (h : Few d) (hc : chk d = 0) : (subs (tre d)).length ≤ 40 := by
  obtain ⟨_, e, _⟩ := chk0 hc
  have h' := h
  rw [e] at h'
  have : (dia (tre d)).1.length = (subs (tre d)).length := brs_length _
  omega
theorem first_ref {F : PH} {x : Nat} {dd : List Dia} {n : Nat} (hn : n = dd.length) (hs : n ≤ 100) (hf : ∀ d ∈ dd, Few d) (h : ∀ i (hi : i < dd.length), ∃ w, F.row ⟨x, i * 2, none⟩ w ∧ DV F w dd[i]) :
    Spec prog 80 #[(Sl.mk (some ⟨x, 0, none⟩) n n).v] F fun r F' => r = vi (chkL dd) ∧ F.le F' := by
  subst hn
  refine c80 ?_
  unfold b80
  refine ⟨fun m i F' => ∃ k : Nat, i = k ∧ k ≤ dd.length ∧ m = dd.length - k ∧ F.le F' ∧ chkL dd = chkL (dd.drop k), dd.length, ⟨0, rfl, by omega, rfl, PH.le_rfl, rfl⟩, ?_⟩
  rintro m i F1 ⟨k, rfl, hk, rfl, hle, hch⟩
  unfold b80L1
  refine ⟨fun hlt => ?_, fun hge => ?_⟩
  · have hkd : k < dd.length := by simpa using hlt
    obtain ⟨w, hr, hd⟩ := h k hkd
    have hfew := hf _ (List.getElem_mem hkd)
    refine ⟨_, rfl, by omega, hlt, w, hd.size, by simpa using row_le hle hr, ?_⟩
    refine (check_ref (hd.le hle) (by omega)).mono ?_
    rintro _ F2 ⟨rfl, l5⟩
    rw [List.drop_eq_getElem_cons hkd] at hch
    refine ⟨_, rfl, fun hne => ?_, fun he => ?_⟩
    · refine ⟨?_, hle.trans l5⟩
      rw [hch]
      unfold chkL
      rw [if_pos hne]
    · refine ⟨dd.length - (k + 1), by omega, k + 1, w64s (by omega), by omega, rfl, hle.trans l5, ?_⟩
      rw [hch]
      conv => lhs; unfold chkL
      rw [if_neg he]
  · unfold b80j1
    have hk' : k = dd.length := by
      have : ¬ k < dd.length := by simpa using hge
      omega
    refine ⟨?_, hle⟩
    rw [hch, hk', List.drop_length]
    rfl

section
variable {F : PH} {u v w : Array Value} {a b c : Dia}
theorem operation_ref {o : Op2} {opc : Int} (hop : (opc = 0 ∧ o = oAnd) ∨ (opc = 1 ∧ o = oOr) ∨ (opc = 2 ∧ o = oXor)) (fa : Few a) (fb : Few b) (ha : DV F v a) (hb : DV F w b) :
    Spec prog 78 #[.agg v, .agg w, .int .i64 opc] F fun r F' => DRV F' r (bin o a b) ∧ F.le F' := by
  have ha' := ha
  have hb' := hb
  obtain ⟨s, rfl, ra⟩ := ha
  obtain ⟨t, rfl, rb⟩ := hb
  refine c78 ?_
  unfold b78
  intro b3 hb3
  refine atI ?_
  have lx := le_set_fresh (.cells #[s.v, vi a.2] 28) hb3
  have qb3 := set_eq F b3 (.cells #[s.v, vi a.2] 28)
  have l0 := lx
  clear lx
  generalize F.set b3 (.cells #[s.v, vi a.2] 28) = F0 at *
  intro b4 hb4
  refine atI ?_
  have lx := le_set_fresh (.cells #[t.v, vi b.2] 28) hb4
  have qb4 := set_eq F0 b4 (.cells #[t.v, vi b.2] 28)
  replace qb3 := lx _ _ qb3
  have l1 := l0.trans lx
  clear lx
  generalize F0.set b4 (.cells #[t.v, vi b.2] 28) = F1 at *
  intro b6 hb6
  refine atI ?_
  have fb6 : F b6 = none := le_none l1 hb6
  have nb3 : b3 ≠ b6 := ne_of_fresh hb6 qb3
  have nb4 : b4 ≠ b6 := ne_of_fresh hb6 qb4
  have lx := le_set_fresh (.cells #[Value.slice none 0 0, Value.int .i64 0] 28) hb6
  have qb6 := set_eq F1 b6 (.cells #[Value.slice none 0 0, Value.int .i64 0] 28)
  replace qb3 := lx _ _ qb3
  replace qb4 := lx _ _ qb4
  have l2 := l1.trans lx
  clear lx
  generalize F1.set b6 (.cells #[Value.slice none 0 0, Value.int .i64 0] 28) = F2 at *
  refine ⟨#[s.v, vi a.2], rfl, row_whole qb3, #[t.v, vi b.2], rfl, row_whole qb4, rfl, rfl, fun b11 hb11 => ?_⟩
  refine atI ?_
  have ex : wr (wr (#[Value.slice none 0 0, Value.int .i64 0, Value.slice none 0 0, Value.int .i64 0] : Array Value) 0 (#[s.v, vi a.2] : Array Value).toList) 2 (#[t.v, vi b.2] : Array Value).toList = #[s.v, vi a.2, t.v, vi b.2] := rfl
  rw [ex]
  have lx := le_set_fresh (.cells #[s.v, vi a.2, t.v, vi b.2] 28) hb11
  have qb11 := set_eq F2 b11 (.cells #[s.v, vi a.2, t.v, vi b.2] 28)
  replace qb3 := lx _ _ qb3
  replace qb4 := lx _ _ qb4
  replace qb6 := lx _ _ qb6
  have l3 := l2.trans lx
  clear lx
  generalize F2.set b11 (.cells #[s.v, vi a.2, t.v, vi b.2] 28) = F3 at *
  refine (first_ref (F := F3) (x := b11) (dd := [a, b]) (n := 2) rfl (by omega) (by simp [fa, fb]) (fun i hi => ?_)).mono ?_
  · have row : ∀ (j : Nat) (s' : Sl) (r : Int), (#[s.v, vi a.2, t.v, vi b.2] : Array Value)[j]? = some s'.v → (#[s.v, vi a.2, t.v, vi b.2] : Array Value)[j + 1]? = some (vi r) → F3.row ⟨b11, j, none⟩ #[s'.v, vi r] := fun j s' r h1 h2 i hi => by
      simp only [add_mk]
      rw [cell_eq qb11]
      match i, hi with
      | 0, _ => simpa using h1
      | 1, _ => simpa using h2
    match i, hi with
    | 0, _ => exact ⟨_, row 0 s _ rfl rfl, ha'.le l3⟩
    | 1, _ => exact ⟨_, row 2 t _ rfl rfl, hb'.le l3⟩
  rintro _ F9 ⟨rfl, l9⟩
  replace qb3 := l9 _ _ qb3
  replace qb4 := l9 _ _ qb4
  replace qb6 := l9 _ _ qb6
  replace l9 := l3.trans l9
  refine ⟨_, rfl, fun h => ?_, fun h => ?_⟩
  · refine ret2 (K := fun vres F' => DRV F' (.tuple #[.agg vres, vi (chkL [a, b])]) (bin o a b) ∧ F.le F') (DV.none F) qb6 rfl ⟨?_, le_set_new l9 fb6⟩
    unfold bin
    rw [if_pos h]
    exact ⟨_, rfl, DV.none _⟩
  · obtain ⟨hca, hcb⟩ := chkL2 h
    obtain ⟨ka, ea, la⟩ := chk0 hca
    obtain ⟨kb, eb, lb⟩ := chk0 hcb
    have sa := few_subs fa hca
    have sb := few_subs fb hcb
    refine ⟨#[s.v, vi a.2], rfl, row_whole qb3, #[t.v, vi b.2], rfl, row_whole qb4, ?_⟩
    have ld := le_del1 l9 fb6
    have da : DV (del1 F9 b6) #[s.v, vi a.2] (dia (tre a)) := by rw [← ea]; exact ha'.le ld
    have db : DV (del1 F9 b6) #[t.v, vi b.2] (dia (tre b)) := by rw [← eb]; exact hb'.le ld
    have hbin : bin o a b = lim (dia (ap2 o (tre a) (tre b))) := by unfold bin; rw [if_neg h]
    rw [hbin]
    refine (callD (rcombine_spec hop da db (f2_of ka kb (by omega) (by omega))) qb6).mono ?_
    rintro _ F10 ⟨z, rfl, ⟨G, hz, lG, gG⟩, l10, q10⟩
    refine ⟨_, rfl, ?_⟩
    refine (callDR (limited_ref (hz.beside lG gG)) q10).mono ?_
    rintro _ F11 ⟨y, rfl, ⟨G2, hy, lG2, gG2⟩, l11, q11⟩
    exact ⟨_, _, rfl, retDR hy lG2 gG2 q11 rfl (l9.trans (l10.trans l11)) fb6⟩
theorem and_ref (fa : Few a) (fb : Few b) (ha : DV F v a) (hb : DV F w b) : Spec prog 37 #[.agg v, .agg w] F fun r F' => DRV F' r (bin oAnd a b) ∧ F.le F' := by
  have ha' := ha
  have hb' := hb
  obtain ⟨s, rfl, ra⟩ := ha
  obtain ⟨t, rfl, rb⟩ := hb
  refine c37 ?_
  unfold b37
  intro b2 hb2
  refine atI ?_
  have lx := le_set_fresh (.cells #[s.v, vi a.2] 28) hb2
  have qb2 := set_eq F b2 (.cells #[s.v, vi a.2] 28)
  have l0 := lx
  clear lx
  generalize F.set b2 (.cells #[s.v, vi a.2] 28) = F0 at *
  intro b3 hb3
  refine atI ?_
  have lx := le_set_fresh (.cells #[t.v, vi b.2] 28) hb3
  have qb3 := set_eq F0 b3 (.cells #[t.v, vi b.2] 28)
  replace qb2 := lx _ _ qb2
  have l1 := l0.trans lx
  clear lx
  generalize F0.set b3 (.cells #[t.v, vi b.2] 28) = F1 at *
  intro b4 hb4
  refine atI ?_
  have fb4 : F b4 = none := le_none l1 hb4
  have nb2 : b2 ≠ b4 := ne_of_fresh hb4 qb2
  have nb3 : b3 ≠ b4 := ne_of_fresh hb4 qb3
  have lx := le_set_fresh (.cells #[Value.slice none 0 0, Value.int .i64 0] 28) hb4
  have qb4 := set_eq F1 b4 (.cells #[Value.slice none 0 0, Value.int .i64 0] 28)
  replace qb2 := lx _ _ qb2
  replace qb3 := lx _ _ qb3
  have l2 := l1.trans lx
  clear lx
  generalize F1.set b4 (.cells #[Value.slice none 0 0, Value.int .i64 0] 28) = F2 at *
  refine ⟨_, rfl, row_whole qb2, _, rfl, row_whole qb3, ?_⟩
  have ld := le_del1 l2 fb4
  refine (callDR (operation_ref (o := oAnd) (opc := 0) (by simp) fa fb (ha'.le ld) (hb'.le ld)) qb4).mono ?_
  rintro _ F5 ⟨z, rfl, ⟨G, hz, lG, gG⟩, l5, q5⟩
  exact ⟨_, _, rfl, retDR hz lG gG q5 rfl (l2.trans l5) fb4⟩
theorem or_ref (fa : Few a) (fb : Few b) (ha : DV F v a) (hb : DV F w b) : Spec prog 38 #[.agg v, .agg w] F fun r F' => DRV F' r (bin oOr a b) ∧ F.le F' := by
  have ha' := ha
  have hb' := hb
  obtain ⟨s, rfl, ra⟩ := ha
  obtain ⟨t, rfl, rb⟩ := hb
  refine c38 ?_
  unfold b38
  intro b2 hb2
  refine atI ?_
  have lx := le_set_fresh (.cells #[s.v, vi a.2] 28) hb2
  have qb2 := set_eq F b2 (.cells #[s.v, vi a.2] 28)
  have l0 := lx
  clear lx
  generalize F.set b2 (.cells #[s.v, vi a.2] 28) = F0 at *
  intro b3 hb3
  refine atI ?_
  have lx := le_set_fresh (.cells #[t.v, vi b.2] 28) hb3
  have qb3 := set_eq F0 b3 (.cells #[t.v, vi b.2] 28)
  replace qb2 := lx _ _ qb2
  have l1 := l0.trans lx
  clear lx
  generalize F0.set b3 (.cells #[t.v, vi b.2] 28) = F1 at *
  intro b4 hb4
  refine atI ?_
  have fb4 : F b4 = none := le_none l1 hb4
  have nb2 : b2 ≠ b4 := ne_of_fresh hb4 qb2
  have nb3 : b3 ≠ b4 := ne_of_fresh hb4 qb3
  have lx := le_set_fresh (.cells #[Value.slice none 0 0, Value.int .i64 0] 28) hb4
  have qb4 := set_eq F1 b4 (.cells #[Value.slice none 0 0, Value.int .i64 0] 28)
  replace qb2 := lx _ _ qb2
  replace qb3 := lx _ _ qb3
  have l2 := l1.trans lx
  clear lx
  generalize F1.set b4 (.cells #[Value.slice none 0 0, Value.int .i64 0] 28) = F2 at *
  refine ⟨_, rfl, row_whole qb2, _, rfl, row_whole qb3, ?_⟩
  have ld := le_del1 l2 fb4
  refine (callDR (operation_ref (o := oOr) (opc := 1) (by simp) fa fb (ha'.le ld) (hb'.le ld)) qb4).mono ?_
  rintro _ F5 ⟨z, rfl, ⟨G, hz, lG, gG⟩, l5, q5⟩
  exact ⟨_, _, rfl, retDR hz lG gG q5 rfl (l2.trans l5) fb4⟩
theorem xor_ref (fa : Few a) (fb : Few b) (ha : DV F v a) (hb : DV F w b) : Spec prog 41 #[.agg v, .agg w] F fun r F' => DRV F' r (bin oXor a b) ∧ F.le F' := by
  have ha' := ha
  have hb' := hb
  obtain ⟨s, rfl, ra⟩ := ha
  obtain ⟨t, rfl, rb⟩ := hb
  refine c41 ?_
  unfold b41
  intro b2 hb2
  refine atI ?_
  have lx := le_set_fresh (.cells #[s.v, vi a.2] 28) hb2
  have qb2 := set_eq F b2 (.cells #[s.v, vi a.2] 28)
  have l0 := lx
  clear lx
  generalize F.set b2 (.cells #[s.v, vi a.2] 28) = F0 at *
  intro b3 hb3
  refine atI ?_
  have lx := le_set_fresh (.cells #[t.v, vi b.2] 28) hb3
  have qb3 := set_eq F0 b3 (.cells #[t.v, vi b.2] 28)
  replace qb2 := lx _ _ qb2
  have l1 := l0.trans lx
  clear lx
  generalize F0.set b3 (.cells #[t.v, vi b.2] 28) = F1 at *
  intro b4 hb4
  refine atI ?_
  have fb4 : F b4 = none := le_none l1 hb4
  have nb2 : b2 ≠ b4 := ne_of_fresh hb4 qb2
  have nb3 : b3 ≠ b4 := ne_of_fresh hb4 qb3
  have lx := le_set_fresh (.cells #[Value.slice none 0 0, Value.int .i64 0] 28) hb4
  have qb4 := set_eq F1 b4 (.cells #[Value.slice none 0 0, Value.int .i64 0] 28)
  replace qb2 := lx _ _ qb2
  replace qb3 := lx _ _ qb3
  have l2 := l1.trans lx
  clear lx
  generalize F1.set b4 (.cells #[Value.slice none 0 0, Value.int .i64 0] 28) = F2 at *
  refine ⟨_, rfl, row_whole qb2, _, rfl, row_whole qb3, ?_⟩
  have ld := le_del1 l2 fb4
  refine (callDR (operation_ref (o := oXor) (opc := 2) (by simp) fa fb (ha'.le ld) (hb'.le ld)) qb4).mono ?_
  rintro _ F5 ⟨z, rfl, ⟨G, hz, lG, gG⟩, l5, q5⟩
  exact ⟨_, _, rfl, retDR hz lG gG q5 rfl (l2.trans l5) fb4⟩
theorem not_ref (fa : Few a) (ha : DV F v a) : Spec prog 43 #[.agg v] F fun r F' => DRV F' r (bin (fun x _ => !x) a none0) ∧ F.le F' := by
  have ha' := ha
  obtain ⟨s, rfl, ra⟩ := ha
  have hn : chkL [a, none0] = chk a := by
    have : chk none0 = 0 := chk_small (leaf_small false)
    by_cases h : chk a = 0 <;> simp [chkL, h, this]
  refine c43 ?_
  unfold b43
  intro b1 hb1
  refine atI ?_
  have lx := le_set_fresh (.cells #[s.v, vi a.2] 28) hb1
  have qb1 := set_eq F b1 (.cells #[s.v, vi a.2] 28)
  have l0 := lx
  clear lx
  generalize F.set b1 (.cells #[s.v, vi a.2] 28) = F0 at *
  intro b2 hb2
  refine atI ?_
  have fb2 : F b2 = none := le_none l0 hb2
  have nb1 : b1 ≠ b2 := ne_of_fresh hb2 qb1
  have lx := le_set_fresh (.cells #[Value.slice none 0 0, Value.int .i64 0] 28) hb2
  have qb2 := set_eq F0 b2 (.cells #[Value.slice none 0 0, Value.int .i64 0] 28)
  replace qb1 := lx _ _ qb1
  have l1 := l0.trans lx
  clear lx
  generalize F0.set b2 (.cells #[Value.slice none 0 0, Value.int .i64 0] 28) = F1 at *
  refine ⟨_, rfl, row_whole qb1, ?_⟩
  have ld := le_del1 l1 fb2
  refine (check_ref (ha'.le l1) (by have : a.1.length ≤ 40 := fa; omega)).mono ?_
  rintro _ F9 ⟨rfl, l9⟩
  replace qb1 := l9 _ _ qb1
  replace qb2 := l9 _ _ qb2
  replace l9 := l1.trans l9
  refine ⟨_, rfl, fun h => ?_, fun h => ?_⟩
  · refine ret2 (K := fun vres F' => DRV F' (.tuple #[.agg vres, vi (chk a)]) (bin (fun x _ => !x) a none0) ∧ F.le F') (DV.none F) qb2 rfl ⟨?_, le_set_new l9 fb2⟩
    unfold bin
    rw [hn, if_pos h]
    exact ⟨_, rfl, DV.none _⟩
  · have hca : chk a = 0 := by omega
    obtain ⟨ka, ea, la⟩ := chk0 hca
    have sa := few_subs fa hca
    refine ⟨#[s.v, vi a.2], rfl, row_whole qb1, ?_⟩
    have ld := le_del1 l9 fb2
    have da : DV (del1 F9 b2) #[s.v, vi a.2] (dia (tre a)) := by rw [← ea]; exact ha'.le ld
    have hbin : bin (fun x _ => !x) a none0 = lim (dia (ap2 oXor (tre a) (leaf true))) := by
      have e : ap (fun x _ _ => !x) (tre a) (leaf false) (leaf false) = ap2 oXor (tre a) (leaf true) := eq_of_ev (ap_ok ka trivial trivial) (ap2_facts ka (b := leaf true) trivial).1 fun c => by
        rw [ap_ev (b := leaf false) (d := leaf false) ka trivial trivial, (ap2_facts (o := oXor) ka (b := leaf true) trivial).2]
        show (!(tre a).ev c) = oXor ((tre a).ev c) true
        cases (tre a).ev c <;> rfl
      unfold bin
      rw [if_neg (by rw [hn]; omega), dia_none0, tre_dia (t := leaf false) trivial, e]
    rw [hbin]
    refine (callD (compl_spec da (f2_of ka (b := leaf true) trivial (by omega) (by simp [subs, vis]))) qb2).mono ?_
    rintro _ F10 ⟨z, rfl, ⟨G, hz, lG, gG⟩, l10, q10⟩
    refine ⟨_, rfl, ?_⟩
    refine (callDR (limited_ref (hz.beside lG gG)) q10).mono ?_
    rintro _ F11 ⟨y, rfl, ⟨G2, hy, lG2, gG2⟩, l11, q11⟩
    exact ⟨_, _, rfl, retDR hy lG2 gG2 q11 rfl (l9.trans (l10.trans l11)) fb2⟩
theorem choose_ref (fc : Few c) (fa : Few a) (fb : Few b) (hc : DV F u c) (ha : DV F v a) (hb : DV F w b) : Spec prog 42 #[.agg u, .agg v, .agg w] F fun r F' => DRV F' r (cho c a b) ∧ F.le F' := by
  have hc' := hc
  have ha' := ha
  have hb' := hb
  obtain ⟨x, rfl, rc⟩ := hc
  obtain ⟨s, rfl, ra⟩ := ha
  obtain ⟨t, rfl, rb⟩ := hb
  refine c42 ?_
  unfold b42
  intro b3 hb3
  refine atI ?_
  have lx := le_set_fresh (.cells #[x.v, vi c.2] 28) hb3
  have qb3 := set_eq F b3 (.cells #[x.v, vi c.2] 28)
  have l0 := lx
  clear lx
  generalize F.set b3 (.cells #[x.v, vi c.2] 28) = F0 at *
  intro b4 hb4
  refine atI ?_
  have lx := le_set_fresh (.cells #[s.v, vi a.2] 28) hb4
  have qb4 := set_eq F0 b4 (.cells #[s.v, vi a.2] 28)
  replace qb3 := lx _ _ qb3
  have l1 := l0.trans lx
  clear lx
  generalize F0.set b4 (.cells #[s.v, vi a.2] 28) = F1 at *
  intro b5 hb5
  refine atI ?_
  have lx := le_set_fresh (.cells #[t.v, vi b.2] 28) hb5
  have qb5 := set_eq F1 b5 (.cells #[t.v, vi b.2] 28)
  replace qb3 := lx _ _ qb3
  replace qb4 := lx _ _ qb4
  have l2 := l1.trans lx
  clear lx
  generalize F1.set b5 (.cells #[t.v, vi b.2] 28) = F2 at *
  intro b6 hb6
  refine atI ?_
  have fb6 : F b6 = none := le_none l2 hb6
  have nb3 : b3 ≠ b6 := ne_of_fresh hb6 qb3
  have nb4 : b4 ≠ b6 := ne_of_fresh hb6 qb4
  have nb5 : b5 ≠ b6 := ne_of_fresh hb6 qb5
  have lx := le_set_fresh (.cells #[Value.slice none 0 0, Value.int .i64 0] 28) hb6
  have qb6 := set_eq F2 b6 (.cells #[Value.slice none 0 0, Value.int .i64 0] 28)
  replace qb3 := lx _ _ qb3
  replace qb4 := lx _ _ qb4
  replace qb5 := lx _ _ qb5
  have l3 := l2.trans lx
  clear lx
  generalize F2.set b6 (.cells #[Value.slice none 0 0, Value.int .i64 0] 28) = F3 at *
  refine ⟨#[x.v, vi c.2], rfl, row_whole qb3, #[s.v, vi a.2], rfl, row_whole qb4, #[t.v, vi b.2], rfl, row_whole qb5, rfl, rfl, rfl, fun b12 hb12 => ?_⟩
  refine atI ?_
  have ex : wr (wr (wr (#[Value.slice none 0 0, Value.int .i64 0, Value.slice none 0 0, Value.int .i64 0, Value.slice none 0 0, Value.int .i64 0] : Array Value) 0 (#[x.v, vi c.2] : Array Value).toList) 2 (#[s.v, vi a.2] : Array Value).toList) 4 (#[t.v, vi b.2] : Array Value).toList = #[x.v, vi c.2, s.v, vi a.2, t.v, vi b.2] := rfl
  rw [ex]
  have lx := le_set_fresh (.cells #[x.v, vi c.2, s.v, vi a.2, t.v, vi b.2] 28) hb12
  have qb12 := set_eq F3 b12 (.cells #[x.v, vi c.2, s.v, vi a.2, t.v, vi b.2] 28)
  replace qb3 := lx _ _ qb3
  replace qb4 := lx _ _ qb4
  replace qb5 := lx _ _ qb5
  replace qb6 := lx _ _ qb6
  have l4 := l3.trans lx
  clear lx
  generalize F3.set b12 (.cells #[x.v, vi c.2, s.v, vi a.2, t.v, vi b.2] 28) = F4 at *
  refine (first_ref (F := F4) (x := b12) (dd := [c, a, b]) (n := 3) rfl (by omega) (by simp [fc, fa, fb]) (fun i hi => ?_)).mono ?_
  · have row : ∀ (j : Nat) (s' : Sl) (r : Int), (#[x.v, vi c.2, s.v, vi a.2, t.v, vi b.2] : Array Value)[j]? = some s'.v → (#[x.v, vi c.2, s.v, vi a.2, t.v, vi b.2] : Array Value)[j + 1]? = some (vi r) → F4.row ⟨b12, j, none⟩ #[s'.v, vi r] := fun j s' r h1 h2 i hi => by
      simp only [add_mk]
      rw [cell_eq qb12]
      match i, hi with
      | 0, _ => simpa using h1
      | 1, _ => simpa using h2
    match i, hi with
    | 0, _ => exact ⟨_, row 0 x _ rfl rfl, hc'.le l4⟩
    | 1, _ => exact ⟨_, row 2 s _ rfl rfl, ha'.le l4⟩
    | 2, _ => exact ⟨_, row 4 t _ rfl rfl, hb'.le l4⟩
  rintro _ F9 ⟨rfl, l9⟩
  replace qb3 := l9 _ _ qb3
  replace qb4 := l9 _ _ qb4
  replace qb5 := l9 _ _ qb5
  replace qb6 := l9 _ _ qb6
  replace l9 := l4.trans l9
  refine ⟨_, rfl, fun h => ?_, fun h => ?_⟩
  · refine ret2 (K := fun vres F' => DRV F' (.tuple #[.agg vres, vi (chkL [c, a, b])]) (cho c a b) ∧ F.le F') (DV.none F) qb6 rfl ⟨?_, le_set_new l9 fb6⟩
    unfold cho
    rw [if_pos h]
    exact ⟨_, rfl, DV.none _⟩
  · obtain ⟨hcc, hca, hcb⟩ := chkL3 h
    obtain ⟨kc, ec, lc⟩ := chk0 hcc
    obtain ⟨ka, ea, la⟩ := chk0 hca
    obtain ⟨kb, eb, lb⟩ := chk0 hcb
    have sc := few_subs fc hcc
    have sa := few_subs fa hca
    have sb := few_subs fb hcb
    have ki := (ap2_facts (o := oAnd) kc ka)
    have kx := (ap2_facts (o := oXor) kc (b := leaf true) trivial)
    have km := (ap2_facts (o := oAnd) kb kx.1)
    have ko := (ap2_facts (o := oOr) ki.1 km.1)
    have li := ap2_length (o := oAnd) kc ka
    have lx := ap2_length (o := oXor) kc (b := leaf true) trivial
    have lm := ap2_length (o := oAnd) kb kx.1
    have e0 : (subs (leaf true)).length = 0 := by simp [subs, vis]
    rw [e0] at lx
    have li' : (subs (ap2 oAnd (tre c) (tre a))).length ≤ 42 * (42 * 2) := Nat.le_trans li (Nat.mul_le_mul (by omega) (Nat.mul_le_mul (by omega) (by omega)))
    have lx' : (subs (ap2 oXor (tre c) (leaf true))).length ≤ 168 := by omega
    have lm' : (subs (ap2 oAnd (tre b) (ap2 oXor (tre c) (leaf true)))).length ≤ 42 * (170 * 2) := Nat.le_trans lm (Nat.mul_le_mul (by omega) (Nat.mul_le_mul (by omega) (by omega)))
    have hcho : cho c a b = lim (dia (ap2 oOr (ap2 oAnd (tre c) (tre a)) (ap2 oAnd (tre b) (ap2 oXor (tre c) (leaf true))))) := by
      have e : ap (fun x y z => x && y || !x && z) (tre c) (tre a) (tre b) = ap2 oOr (ap2 oAnd (tre c) (tre a)) (ap2 oAnd (tre b) (ap2 oXor (tre c) (leaf true))) := eq_of_ev (ap_ok kc ka kb) ko.1 fun q => by
        rw [ap_ev kc ka kb, ko.2, ki.2, km.2, kx.2]
        show _ = oOr (oAnd _ _) (oAnd _ (oXor _ true))
        cases (tre c).ev q <;> cases (tre a).ev q <;> cases (tre b).ev q <;> rfl
      unfold cho
      rw [if_neg h, e]
    rw [hcho]
    have ld := le_del1 l9 fb6
    have dc : DV (del1 F9 b6) #[x.v, vi c.2] (dia (tre c)) := by rw [← ec]; exact hc'.le ld
    have da : DV (del1 F9 b6) #[s.v, vi a.2] (dia (tre a)) := by rw [← ea]; exact ha'.le ld
    refine ⟨#[x.v, vi c.2], rfl, row_whole qb3, #[s.v, vi a.2], rfl, row_whole qb4, #[t.v, vi b.2], rfl, row_whole qb5, #[x.v, vi c.2], rfl, row_whole qb3, ?_⟩
    refine (callD (inter_spec dc da (f2_of kc ka (by omega) (by omega))) qb6).mono ?_
    rintro _ F12 ⟨z1, rfl, ⟨G1, hz1, lG1, gG1⟩, l12, q12⟩
    replace qb3 := l12 _ _ qb3
    replace qb5 := l12 _ _ qb5
    have ld2 := le_del1 (l9.trans l12) fb6
    have db2 : DV (del1 F12 b6) #[t.v, vi b.2] (dia (tre b)) := by rw [← eb]; exact hb'.le ld2
    have dc2 : DV (del1 F12 b6) #[x.v, vi c.2] (dia (tre c)) := by rw [← ec]; exact hc'.le ld2
    refine ⟨_, rfl, row_whole qb3, row_whole qb5, ?_⟩
    refine (callD (minus_spec db2 dc2 (f2_of kc (b := leaf true) trivial (by omega) (by omega)) (f2_of kb kx.1 (by omega) (by omega))) q12).mono ?_
    rintro _ F13 ⟨z2, rfl, ⟨G2, hz2, lG2, gG2⟩, l13, q13⟩
    refine ⟨_, rfl, ?_⟩
    refine (callD (union_spec (hz1.beside (lG1.trans l13) gG1) (hz2.beside lG2 gG2) (f2_of ki.1 km.1 (by omega) (by omega))) q13).mono ?_
    replace l9 := l9.trans (l12.trans l13)
    rintro _ F10 ⟨z, rfl, ⟨G, hz, lG, gG⟩, l10, q10⟩
    refine ⟨_, rfl, ?_⟩
    refine (callDR (limited_ref (hz.beside lG gG)) q10).mono ?_
    rintro _ F11 ⟨y, rfl, ⟨G2, hy, lG2, gG2⟩, l11, q11⟩
    exact ⟨_, _, rfl, retDR hy lG2 gG2 q11 rfl (l9.trans (l10.trans l11)) fb6⟩
theorem within_ref (fa : Few a) (fb : Few b) (ha : DV F v a) (hb : DV F w b) : Spec prog 45 #[.agg v, .agg w] F fun r F' => r = .bool (missD a b false) ∧ F.le F' := by
  have ha' := ha
  have hb' := hb
  obtain ⟨s, rfl, ra⟩ := ha
  obtain ⟨t, rfl, rb⟩ := hb
  refine c45 ?_
  unfold b45
  intro b2 hb2
  refine atI ?_
  have lx := le_set_fresh (.cells #[s.v, vi a.2] 28) hb2
  have qb2 := set_eq F b2 (.cells #[s.v, vi a.2] 28)
  have l0 := lx
  clear lx
  generalize F.set b2 (.cells #[s.v, vi a.2] 28) = F0 at *
  intro b3 hb3
  refine atI ?_
  have lx := le_set_fresh (.cells #[t.v, vi b.2] 28) hb3
  have qb3 := set_eq F0 b3 (.cells #[t.v, vi b.2] 28)
  replace qb2 := lx _ _ qb2
  have l1 := l0.trans lx
  clear lx
  generalize F0.set b3 (.cells #[t.v, vi b.2] 28) = F1 at *
  refine ⟨#[s.v, vi a.2], rfl, row_whole qb2, #[t.v, vi b.2], rfl, row_whole qb3, rfl, rfl, fun b7 hb7 => ?_⟩
  refine atI ?_
  have ex : wr (wr (#[Value.slice none 0 0, Value.int .i64 0, Value.slice none 0 0, Value.int .i64 0] : Array Value) 0 (#[s.v, vi a.2] : Array Value).toList) 2 (#[t.v, vi b.2] : Array Value).toList = #[s.v, vi a.2, t.v, vi b.2] := rfl
  rw [ex]
  have lx := le_set_fresh (.cells #[s.v, vi a.2, t.v, vi b.2] 28) hb7
  have qb7 := set_eq F1 b7 (.cells #[s.v, vi a.2, t.v, vi b.2] 28)
  replace qb2 := lx _ _ qb2
  replace qb3 := lx _ _ qb3
  have l2 := l1.trans lx
  clear lx
  generalize F1.set b7 (.cells #[s.v, vi a.2, t.v, vi b.2] 28) = F2 at *
  refine (first_ref (F := F2) (x := b7) (dd := [a, b]) (n := 2) rfl (by omega) (by simp [fa, fb]) (fun i hi => ?_)).mono ?_
  · have row : ∀ (j : Nat) (s' : Sl) (r : Int), (#[s.v, vi a.2, t.v, vi b.2] : Array Value)[j]? = some s'.v → (#[s.v, vi a.2, t.v, vi b.2] : Array Value)[j + 1]? = some (vi r) → F2.row ⟨b7, j, none⟩ #[s'.v, vi r] := fun j s' r h1 h2 i hi => by
      simp only [add_mk]
      rw [cell_eq qb7]
      match i, hi with
      | 0, _ => simpa using h1
      | 1, _ => simpa using h2
    match i, hi with
    | 0, _ => exact ⟨_, row 0 s _ rfl rfl, ha'.le l2⟩
    | 1, _ => exact ⟨_, row 2 t _ rfl rfl, hb'.le l2⟩
  rintro _ F9 ⟨rfl, l9⟩
  replace qb2 := l9 _ _ qb2
  replace qb3 := l9 _ _ qb3
  replace l9 := l2.trans l9
  refine ⟨_, rfl, fun h => ?_, fun h => ⟨by unfold missD; rw [if_pos h], l9⟩⟩
  have h' : ¬ chkL [a, b] ≠ 0 := by omega
  obtain ⟨hca, hcb⟩ := chkL2 h'
  obtain ⟨ka, ea, la⟩ := chk0 hca
  obtain ⟨kb, eb, lb⟩ := chk0 hcb
  have sa := few_subs fa hca
  have sb := few_subs fb hcb
  have da : DV F9 #[s.v, vi a.2] (dia (tre a)) := by rw [← ea]; exact ha'.le l9
  have db : DV F9 #[t.v, vi b.2] (dia (tre b)) := by rw [← eb]; exact hb'.le l9
  have hm : missD a b false = !hitB (tre a) (tre b) false := by unfold missD; rw [if_neg h']
  refine ⟨#[s.v, vi a.2], rfl, row_whole qb2, #[t.v, vi b.2], rfl, row_whole qb3, ?_⟩
  have kx := (ap2_facts (o := oXor) kb (b := leaf true) trivial)
  have km := (ap2_facts (o := oAnd) ka kx.1)
  have lx := ap2_length (o := oXor) kb (b := leaf true) trivial
  have e0 : (subs (leaf true)).length = 0 := by simp [subs, vis]
  rw [e0] at lx
  refine (minus_spec da db (f2_of kb (b := leaf true) trivial (by omega) (by omega)) (f2_of ka kx.1 (by omega) (by omega))).mono ?_
  rintro _ F10 ⟨z, rfl, ⟨sz, rfl, _⟩, l10⟩
  refine ⟨_, rfl, _, rfl, ?_, l9.trans l10⟩
  rw [hm]
  congr 1
  rw [Bool.eq_iff_iff, decide_eq_true_iff, Bool.not_eq_true', Bool.eq_false_iff, ne_eq, hitB_iff]
  show ((num (subs _) _ : Nat) : Int) = 0 ↔ _
  rw [int_num0]
  constructor
  · rintro e ⟨q, h1, h2⟩
    have := km.2 q
    rw [e, kx.2 q, h1, h2] at this
    cases this
  · intro hn
    refine eq_of_ev km.1 trivial fun q => ?_
    rw [km.2, kx.2]
    cases h1 : (tre a).ev q with
    | false => rfl
    | true =>
      cases h2 : (tre b).ev q with
      | true => rfl
      | false => exact absurd ⟨q, h1, h2⟩ hn
theorem disjoint_ref (fa : Few a) (fb : Few b) (ha : DV F v a) (hb : DV F w b) : Spec prog 47 #[.agg v, .agg w] F fun r F' => r = .bool (missD a b true) ∧ F.le F' := by
  have ha' := ha
  have hb' := hb
  obtain ⟨s, rfl, ra⟩ := ha
  obtain ⟨t, rfl, rb⟩ := hb
  refine c47 ?_
  unfold b47
  intro b2 hb2
  refine atI ?_
  have lx := le_set_fresh (.cells #[s.v, vi a.2] 28) hb2
  have qb2 := set_eq F b2 (.cells #[s.v, vi a.2] 28)
  have l0 := lx
  clear lx
  generalize F.set b2 (.cells #[s.v, vi a.2] 28) = F0 at *
  intro b3 hb3
  refine atI ?_
  have lx := le_set_fresh (.cells #[t.v, vi b.2] 28) hb3
  have qb3 := set_eq F0 b3 (.cells #[t.v, vi b.2] 28)
  replace qb2 := lx _ _ qb2
  have l1 := l0.trans lx
  clear lx
  generalize F0.set b3 (.cells #[t.v, vi b.2] 28) = F1 at *
  refine ⟨#[s.v, vi a.2], rfl, row_whole qb2, #[t.v, vi b.2], rfl, row_whole qb3, rfl, rfl, fun b7 hb7 => ?_⟩
  refine atI ?_
  have ex : wr (wr (#[Value.slice none 0 0, Value.int .i64 0, Value.slice none 0 0, Value.int .i64 0] : Array Value) 0 (#[s.v, vi a.2] : Array Value).toList) 2 (#[t.v, vi b.2] : Array Value).toList = #[s.v, vi a.2, t.v, vi b.2] := rfl
  rw [ex]
  have lx := le_set_fresh (.cells #[s.v, vi a.2, t.v, vi b.2] 28) hb7
  have qb7 := set_eq F1 b7 (.cells #[s.v, vi a.2, t.v, vi b.2] 28)
  replace qb2 := lx _ _ qb2
  replace qb3 := lx _ _ qb3
  have l2 := l1.trans lx
  clear lx
  generalize F1.set b7 (.cells #[s.v, vi a.2, t.v, vi b.2] 28) = F2 at *
  refine (first_ref (F := F2) (x := b7) (dd := [a, b]) (n := 2) rfl (by omega) (by simp [fa, fb]) (fun i hi => ?_)).mono ?_
  · have row : ∀ (j : Nat) (s' : Sl) (r : Int), (#[s.v, vi a.2, t.v, vi b.2] : Array Value)[j]? = some s'.v → (#[s.v, vi a.2, t.v, vi b.2] : Array Value)[j + 1]? = some (vi r) → F2.row ⟨b7, j, none⟩ #[s'.v, vi r] := fun j s' r h1 h2 i hi => by
      simp only [add_mk]
      rw [cell_eq qb7]
      match i, hi with
      | 0, _ => simpa using h1
      | 1, _ => simpa using h2
    match i, hi with
    | 0, _ => exact ⟨_, row 0 s _ rfl rfl, ha'.le l2⟩
    | 1, _ => exact ⟨_, row 2 t _ rfl rfl, hb'.le l2⟩
  rintro _ F9 ⟨rfl, l9⟩
  replace qb2 := l9 _ _ qb2
  replace qb3 := l9 _ _ qb3
  replace l9 := l2.trans l9
  refine ⟨_, rfl, fun h => ?_, fun h => ⟨by unfold missD; rw [if_pos h], l9⟩⟩
  have h' : ¬ chkL [a, b] ≠ 0 := by omega
  obtain ⟨hca, hcb⟩ := chkL2 h'
  obtain ⟨ka, ea, la⟩ := chk0 hca
  obtain ⟨kb, eb, lb⟩ := chk0 hcb
  have sa := few_subs fa hca
  have sb := few_subs fb hcb
  have da : DV F9 #[s.v, vi a.2] (dia (tre a)) := by rw [← ea]; exact ha'.le l9
  have db : DV F9 #[t.v, vi b.2] (dia (tre b)) := by rw [← eb]; exact hb'.le l9
  have hm : missD a b true = !hitB (tre a) (tre b) true := by unfold missD; rw [if_neg h']
  refine ⟨#[s.v, vi a.2], rfl, row_whole qb2, #[t.v, vi b.2], rfl, row_whole qb3, ?_⟩
  have km := (ap2_facts (o := oAnd) ka kb)
  refine (inter_spec da db (f2_of ka kb (by omega) (by omega))).mono ?_
  rintro _ F10 ⟨z, rfl, ⟨sz, rfl, _⟩, l10⟩
  refine ⟨_, rfl, _, rfl, ?_, l9.trans l10⟩
  rw [hm]
  congr 1
  rw [Bool.eq_iff_iff, decide_eq_true_iff, Bool.not_eq_true', Bool.eq_false_iff, ne_eq, hitB_iff]
  show ((num (subs _) _ : Nat) : Int) = 0 ↔ _
  rw [int_num0]
  constructor
  · rintro e ⟨q, h1, h2⟩
    have := km.2 q
    rw [e, h1, h2] at this
    cases this
  · intro hn
    refine eq_of_ev km.1 trivial fun q => ?_
    rw [km.2]
    cases h1 : (tre a).ev q with
    | false => rfl
    | true =>
      cases h2 : (tre b).ev q with
      | false => rfl
      | true => exact absurd ⟨q, h1, h2⟩ hn
end
end Go.Proofs.Ytafojmoeaneedaa
