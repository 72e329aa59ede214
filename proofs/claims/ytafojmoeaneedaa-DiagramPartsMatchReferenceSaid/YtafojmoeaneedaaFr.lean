/-
  The reference: branch, Valid, Check, limited.
-/
import Derived.Test.YtafojmoeaneedaaEx
import Derived.Test.YtafojmoeaneedaaEs
import Derived.Test.YtafojmoeaneedaaGp
namespace Go.Proofs.Ytafojmoeaneedaa
open Go Go.Proofs.Try Tr
set_option maxRecDepth 10000

section
variable {F : PH} {v : Array Value} {d : Dia}
open Classical in
theorem branch_ref (hd : DV F v d) (hf : Fit (d.1.length + 4)) {S : List Tr} (hS : Cl S) {k : Nat} (hk : S.length = k) (hkd : k < d.1.length) (hb : brs S = d.1.take k) :
    Spec prog 101 #[.agg v, vi k] F fun r F' => r = .bool (decide (Fits S d.1[k])) ∧ F.le F' := by
  have hd' := hd
  obtain ⟨s, rfl, hr⟩ := hd
  have hlen := hr.blen
  have hpre : brs S <+: d.1 := by rw [hb]; exact List.take_prefix _ _
  generalize hB : d.1[k] = B
  have hget : d.1[k]? = some B := by rw [List.getElem?_eq_getElem hkd, hB]
  refine c101 ?_
  unfold b101
  intro b2 hb2
  refine atI ?_
  have l2 := le_set_fresh (.cells #[s.v, vi d.2] 28) hb2
  have q2 := set_eq F b2 (.cells #[s.v, vi d.2] 28)
  generalize F.set b2 (.cells #[s.v, vi d.2] 28) = F2 at *
  obtain ⟨p, hp, hrow, _⟩ := rdb (hr.le l2) hget
  refine ⟨s, by rw [cell_eq q2]; rfl, p, hp, by omega, by omega, barr B, rfl, by simpa using hrow, ?_⟩
  intro b5 hb5
  refine atI ?_
  refine stW (set_eq _ _ _) rfl rfl (st_barr _) ?_
  rw [set_twice]
  have lx := le_set_fresh (.cells (barr B) 72) hb5
  have q5 := set_eq F2 b5 (.cells (barr B) 72)
  replace q2 := lx _ _ q2
  have l5 := l2.trans lx
  generalize F2.set b5 (.cells (barr B) 72) = F5 at *
  have c0 : ∀ {G : PH}, F5.le G → G.cell (Addr.mk b5 0 none) = some (vi B.v) := fun h => by rw [cell_eq (h _ _ q5)]; rfl
  have c1 : ∀ {G : PH}, F5.le G → G.cell (Addr.mk b5 1 none) = some (vi B.l) := fun h => by rw [cell_eq (h _ _ q5)]; rfl
  have c2 : ∀ {G : PH}, F5.le G → G.cell (Addr.mk b5 2 none) = some (vi B.h) := fun h => by rw [cell_eq (h _ _ q5)]; rfl
  have r0 := PH.le_rfl (F := F5)
  have hw : IntKind.i64.wrap ((k : Int) + 2) = (k : Int) + 2 := by rw [w64_eq (by omega) (by omega)]
  have bad : ∀ {G : PH}, F.le G → ¬ Fits S B → (Value.bool false = .bool (decide (Fits S B)) ∧ F.le G) := fun {G} hg hn => ⟨by rw [decide_eq_false hn], hg⟩
  rw [hw]
  refine ⟨_, c0 r0, fun h => bad l5 fun hF => (by have := fits_facts hS hF; omega), fun h1 => ?_⟩
  refine ⟨_, c0 r0, fun h => bad l5 fun hF => (by have := fits_facts hS hF; omega), fun h2 => ?_⟩
  refine ⟨_, c1 r0, fun h => bad l5 fun hF => (by have := fits_facts hS hF; omega), fun h3 => ?_⟩
  refine ⟨_, c2 r0, fun h => bad l5 fun hF => (by have := fits_facts hS hF; omega), fun h4 => ?_⟩
  refine ⟨_, c1 r0, fun h => bad l5 fun hF => (by have := fits_facts hS hF; omega), fun h5 => ?_⟩
  refine ⟨_, c2 r0, fun h => bad l5 fun hF => (by have := fits_facts hS hF; omega), fun h6 => ?_⟩
  refine ⟨_, c1 r0, _, c2 r0, fun h => bad l5 fun hF => (by have := fits_facts hS hF; omega), fun h7 => ?_⟩
  have il : inn S (tr S B.l.toNat) := tr_inn (by omega)
  have ih : inn S (tr S B.h.toNat) := tr_inn (by omega)
  have nl : ((num S (tr S B.l.toNat) : Nat) : Int) = B.l := by rw [num_tr hS (by omega)]; omega
  have nh : ((num S (tr S B.h.toNat) : Nat) : Int) = B.h := by rw [num_tr hS (by omega)]; omega
  refine ⟨_, rfl, row_whole q2, _, c1 r0, _, c0 r0, ?_⟩
  have s1 := rlevel_spec (hd'.le l5) hpre il (by omega)
  rw [nl] at s1
  refine s1.mono ?_
  rintro _ F6 ⟨rfl, l6⟩
  refine ⟨_, rfl, c0 l6, fun h => bad (l5.trans l6) fun hF => (by have := fits_facts hS hF; omega), fun h9 => ?_⟩
  refine ⟨_, rfl, row_whole (l6 _ _ q2), _, c2 l6, _, c0 l6, ?_⟩
  have s2 := rlevel_spec (hd'.le (l5.trans l6)) hpre ih (by omega)
  rw [nh] at s2
  refine s2.mono ?_
  rintro _ F7 ⟨rfl, l7⟩
  have l57 := l6.trans l7
  refine ⟨_, rfl, c0 l57, c0 l57, fun h => bad (l5.trans l57) fun hF => (by have := fits_facts hS hF; omega), fun h10 => ?_⟩
  have hmem : ∀ i, i < k → ∀ x, d.1[i]? = some x → x ∈ brs S := fun i hi x hx => by
    rw [hb]
    exact List.mem_of_getElem? (by rw [List.getElem?_take_of_lt hi]; exact hx)
  refine ⟨fun m i F' => ∃ j : Nat, i = j ∧ j ≤ k ∧ m = k - j ∧ F7.le F' ∧ ∀ x ∈ d.1.take j, x ≠ B, k, ⟨0, rfl, by omega, rfl, PH.le_rfl, by simp⟩, ?_⟩
  rintro m i F8 ⟨j, rfl, hj, rfl, l8, hne⟩
  have l58 := l57.trans l8
  unfold b101L1
  refine ⟨fun hlt => ?_, fun hge => ?_⟩
  · have hjd : j < d.1.length := by omega
    have hjg := List.getElem?_eq_getElem hjd
    obtain ⟨p, hp, hrow, _⟩ := rdb (hr.le (l5.trans l58)) hjg
    refine ⟨s, by rw [cell_eq (l58 _ _ q2)]; rfl, p, hp, by omega, by omega, barr d.1[j], rfl, by simpa using hrow, barr B, rfl, row_whole (l58 _ _ q5), _, fun F => eqBr _ _ F, fun he => ?_, fun hn => ?_⟩
    · refine bad (l5.trans l58) fun hF => (fits_facts hS hF).2.2.2.2.2.2.2.1 ?_
      rw [← of_decide_eq_true he]
      exact hmem j (by omega) _ hjg
    · refine ⟨k - (j + 1), by omega, j + 1, w64s (by omega), by omega, rfl, l8, fun x hx => ?_⟩
      rw [List.take_succ_eq_append_getElem hjd] at hx
      rcases List.mem_append.1 hx with hx | hx
      · exact hne x hx
      · rw [List.mem_singleton.1 hx]
        exact of_decide_eq_false hn
  · obtain rfl : j = k := by omega
    unfold b101j1
    refine ⟨?_, l5.trans l58⟩
    rw [decide_eq_true (fits_of hS (by omega) (by omega) (by omega) (by omega) (by omega) (by omega) h7 (fun hm => hne B (by rw [← hb]; exact hm) rfl) (by omega) (by omega))]

open Classical in
theorem valid_ref (hd : DV F v d) (hf : Fit (d.1.length + 4)) : Spec prog 79 #[.agg v] F fun r F' => r = .bool (decide (Valid d)) ∧ F.le F' := by
  have hd' := hd
  obtain ⟨s, rfl, hr⟩ := hd
  have hlen := hr.blen
  refine c79 ?_
  unfold b79
  intro b1 hb1
  refine atI ?_
  have l1 := le_set_fresh (.cells #[s.v, vi d.2] 28) hb1
  have q1 := set_eq F b1 (.cells #[s.v, vi d.2] 28)
  generalize F.set b1 (.cells #[s.v, vi d.2] 28) = F1 at *
  have bad : ∀ {G : PH}, F.le G → ¬ Valid d → (Value.bool false = .bool (decide (Valid d)) ∧ F.le G) := fun {G} hg hn => ⟨by rw [decide_eq_false hn], hg⟩
  have hrange : Valid d → 0 ≤ d.2 ∧ d.2 ≤ (d.1.length : Int) + 1 := by
    rintro ⟨t, ht, rfl⟩
    have h1 := num_le (subs_inn ht)
    have h2 : (dia t).1.length = (subs t).length := brs_length _
    have h3 : (dia t).2 = ((num (subs t) t : Nat) : Int) := rfl
    omega
  have hw : IntKind.i64.wrap ((s.len : Int) + 2) = (s.len : Int) + 2 := by rw [w64_eq (by omega) (by omega)]
  have c1 : ∀ {G : PH}, F1.le G → G.cell (Addr.mk b1 1 none) = some (vi d.2) := fun h => by rw [cell_eq (h _ _ q1)]; rfl
  have c0 : ∀ {G : PH}, F1.le G → G.cell (Addr.mk b1 0 none) = some s.v := fun h => by rw [cell_eq (h _ _ q1)]; rfl
  have r0 := PH.le_rfl (F := F1)
  refine ⟨_, c1 r0, fun h => bad l1 fun hv => (by have := hrange hv; omega), fun h1 => ?_⟩
  refine ⟨_, c1 r0, s, c0 r0, ?_⟩
  rw [hw]
  refine ⟨fun h => bad l1 fun hv => (by have := hrange hv; omega), fun h2 => ?_⟩
  refine ⟨fun m i F' => ∃ (k : Nat) (S : List Tr), i = k ∧ k ≤ d.1.length ∧ m = d.1.length - k ∧ F1.le F' ∧ Cl S ∧ S.length = k ∧ brs S = d.1.take k, d.1.length, ⟨0, [], rfl, by omega, rfl, r0, .nil, rfl, by simp [brs]⟩, ?_⟩
  rintro m i F2 ⟨k, S, rfl, hk, rfl, l2, hS, hSk, hSb⟩
  unfold b79L1
  refine ⟨s, c0 l2, fun hlt => ?_, fun hge => ?_⟩
  · have hkd : k < d.1.length := by omega
    refine ⟨_, rfl, row_whole (l2 _ _ q1), ?_⟩
    refine (branch_ref (hd'.le (l1.trans l2)) hf hS hSk hkd hSb).mono ?_
    rintro _ F3 ⟨rfl, l3⟩
    by_cases hF : Fits S d.1[k]
    · rw [decide_eq_true hF]
      refine ⟨_, rfl, fun h => (by cases h), fun _ => ?_⟩
      obtain ⟨v, l, h, e, hl, hh, hok, hn⟩ := hF
      refine ⟨d.1.length - (k + 1), by omega, k + 1, S ++ [node v l h], w64s (by omega), by omega, rfl, l2.trans l3, .snoc hS hl hh hok hn, by simp [hSk], ?_⟩
      rw [brs_snoc hS hl hh, List.take_succ_eq_append_getElem hkd, hSb, e]
    · rw [decide_eq_false hF]
      exact ⟨_, rfl, fun _ => bad (l1.trans (l2.trans l3)) fun hv => hF (fits_of_valid hv hS hSk hkd hSb), fun h => by cases h⟩
  · obtain rfl : k = d.1.length := by omega
    rw [List.take_length] at hSb
    unfold b79j1
    have hin : inn S (tr S d.2.toNat) := tr_inn (by omega)
    have hnum : ((num S (tr S d.2.toNat) : Nat) : Int) = d.2 := by rw [num_tr hS (by omega)]; omega
    refine ⟨_, rfl, row_whole (l2 _ _ q1), s, c0 l2, _, c1 l2, ?_⟩
    have sp := numbered_spec (ns := s) (t := tr S d.2.toNat) (by rw [hSb]; exact hr.le (l1.trans l2)) hS hin (by omega)
    rw [hnum] at sp
    refine sp.mono ?_
    rintro _ F3 ⟨w, rfl, hw3, l3⟩
    refine ⟨_, rfl, row_whole ((l2.trans l3) _ _ q1), ?_⟩
    refine (rsame_spec (hd'.le (l1.trans (l2.trans l3))) hw3 (by omega)).mono ?_
    rintro _ F4 ⟨rfl, l4⟩
    refine ⟨_, rfl, ?_, l1.trans (l2.trans (l3.trans l4))⟩
    have key : (d = dia (tr S d.2.toNat)) ↔ Valid d := by
      constructor
      · exact fun e => ⟨_, hS.inn_ok hin, e⟩
      · rintro ⟨u, hu, e⟩
        have e1 : brs S = brs (subs u) := by rw [hSb, e]; rfl
        have e2 : S = subs u := brs_inj hS (subs_cl hu) e1
        have e3 : d.2.toNat = num (subs u) u := by rw [e]; show ((num (subs u) u : Nat) : Int).toNat = _; simp
        rw [e3, e2, tr_num (subs_cl hu) (subs_inn hu)]
        exact e
    congr 1
    rw [Bool.eq_iff_iff, decide_eq_true_iff, decide_eq_true_iff]
    exact key
theorem check_ref (hd : DV F v d) (hf : Fit (d.1.length + 4)) : Spec prog 40 #[.agg v] F fun r F' => r = vi (chk d) ∧ F.le F' := by
  have hd' := hd
  obtain ⟨s, rfl, hr⟩ := hd
  have hlen := hr.blen
  refine c40 ?_
  unfold b40
  intro b1 hb1
  refine atI ?_
  have l1 := le_set_fresh (.cells #[s.v, vi d.2] 28) hb1
  have q1 := set_eq F b1 (.cells #[s.v, vi d.2] 28)
  generalize F.set b1 (.cells #[s.v, vi d.2] 28) = F1 at *
  refine ⟨s, by rw [cell_eq q1]; rfl, fun h => ⟨?_, l1⟩, fun h => ?_⟩
  · unfold chk
    rw [if_pos (by omega)]
  · refine ⟨_, rfl, row_whole q1, ?_⟩
    refine (valid_ref (hd'.le l1) hf).mono ?_
    rintro _ F2 ⟨rfl, l2⟩
    refine ⟨_, rfl, fun h2 => ⟨?_, l1.trans l2⟩, fun h2 => ⟨?_, l1.trans l2⟩⟩
    · unfold chk
      rw [if_neg (by omega), if_neg (by simpa using h2)]
    · unfold chk
      rw [if_neg (by omega), if_pos (by simpa using h2)]
theorem limited_ref (hd : DV F v d) : Spec prog 81 #[.agg v] F fun r F' => DRV F' r (lim d) ∧ F.le F' := by
  have hd' := hd
  obtain ⟨s, rfl, hr⟩ := hd
  have hlen := hr.blen
  refine c81 ?_
  unfold b81
  intro b1 hb1
  refine atI ?_
  have l1 := le_set_fresh (.cells #[s.v, vi d.2] 28) hb1
  have h1 := set_eq F b1 (.cells #[s.v, vi d.2] 28)
  generalize F.set b1 (.cells #[s.v, vi d.2] 28) = F1 at *
  intro b2 hb2
  refine atI ?_
  have l2 := l1.trans (le_set_fresh (.cells #[Value.slice none 0 0, Value.int .i64 0] 28) hb2)
  have n12 : b1 ≠ b2 := ne_of_fresh hb2 h1
  have f2 : F b2 = none := le_none l1 hb2
  refine ⟨s, by rw [cell_eq ((set_ne _ _ n12).trans h1)]; rfl, fun h => ?_, fun h => ?_⟩
  · refine ret2 (K := fun vres F' => DRV F' (.tuple #[.agg vres, vi 2]) (lim d) ∧ F.le F') (DV.none F) (set_eq _ _ _) rfl ⟨?_, le_set_new l2 f2⟩
    unfold lim
    rw [if_pos (by omega)]
    exact ⟨_, rfl, DV.none _⟩
  · refine ⟨#[s.v, vi d.2], rfl, row_whole ((set_ne _ _ n12).trans h1), ?_⟩
    refine ret2 (K := fun vres F' => DRV F' (.tuple #[.agg vres, vi 0]) (lim d) ∧ F.le F') hd' (set_eq _ _ _) rfl ⟨?_, le_set_new l2 f2⟩
    unfold lim
    rw [if_neg (by omega)]
    exact ⟨_, rfl, hd'.le (le_set_new l2 f2)⟩
end
end Go.Proofs.Ytafojmoeaneedaa
