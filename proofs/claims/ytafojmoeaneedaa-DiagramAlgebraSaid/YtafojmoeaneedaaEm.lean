/-
  The diagrams: Restrict, Exists, Holds.
-/
import Derived.Test.YtafojmoeaneedaaEl
namespace Go.Proofs.Ytafojmoeaneedaa
open Go Go.Proofs.Try Tr
set_option maxRecDepth 10000

/-! a restriction has no more branches -/
theorem vis_fx {w : Nat} {b : Bool} {T : Tr} (hT : T.ok) : ∀ (t : Tr), inn (subs T) t → ∀ (S : List Tr), Cl S → ∀ u ∈ vis (fx w b t) S, u ∈ S ∨ u ∈ (subs T).map (fx w b)
  | leaf x, _, S, _ => by
    rw [fx_leaf]
    exact fun u hu => .inl hu
  | node v l h, ht, S, hS => by
    have hcl := subs_cl hT
    have hk := hcl.inn_ok ht
    obtain ⟨il, ih⟩ := hcl.inn_kids ht
    have hf := fx_node (w := w) (b := b) hk
    obtain ⟨h0, h1, h2, h3, h4, h5⟩ := hk
    obtain ⟨l1, l2, l3⟩ := fx_facts w b h4
    obtain ⟨g1, g2, g3⟩ := fx_facts w b h5
    have vl := vis_fx (w := w) (b := b) hT l il
    have vh := vis_fx (w := w) (b := b) hT h ih
    by_cases hv : v = w
    · rw [if_pos hv] at hf
      rw [hf]
      split
      · exact vh S hS
      · exact vl S hS
    · rw [if_neg hv] at hf
      have hadd := addT_vis hS (v := v) (l := fx w b l) (h := fx w b h) ⟨h0, by omega, by omega, l1, g1⟩
      rw [← hf] at hadd
      rw [← hadd]
      intro u hu
      have key : u ∈ vis (fx w b h) (vis (fx w b l) S) → u ∈ S ∨ u ∈ (subs T).map (fx w b) := fun hu => by
        rcases vh _ (vis_facts _ S l1 hS).1 u hu with h | h
        · exact vl S hS u h
        · exact .inr h
      unfold addT at hu
      split at hu
      · exact key hu
      · rcases List.mem_append.1 hu with hu | hu
        · exact key hu
        · rw [List.mem_singleton.1 hu]
          exact .inr (List.mem_map.2 ⟨_, inn_mem ht rfl, rfl⟩)
theorem fx_length {w : Nat} {b : Bool} {t : Tr} (ht : t.ok) : (subs (fx w b t)).length ≤ (subs t).length := by
  have := nodup_length (subs (fx w b t)) ((subs t).map (fx w b)) (subs_cl (fx_facts w b ht).1).nodup fun x hx => by
    rcases vis_fx ht t (subs_inn ht) [] .nil x hx with h | h
    · cases h
    · exact h
  simpa using this

noncomputable def resD (a : Dia) (v : Int) (b : Bool) : DR := if chk a ≠ 0 then (none0, chk a) else if v < 0 ∨ 63 < v then (none0, 1) else lim (dia (fx v.toNat b (tre a)))
abbrev oOr3 : Op3 := fun x y _ => x || y
noncomputable def exT (v : Nat) (t : Tr) : Tr := ap oOr3 (fx v false t) (fx v true t) (leaf false)
noncomputable def exD (a : Dia) (v : Int) : DR := if chk a ≠ 0 then (none0, chk a) else if v < 0 ∨ 63 < v then (none0, 1) else lim (dia (exT v.toNat (tre a)))

section
variable {F : PH} {v : Array Value} {a : Dia}
theorem restrict_spec (ha : DV F v a) (w : Int) (x : Bool) : Spec prog 28 #[.agg v, vi w, .bool x] F fun r F' => DRV F' r (resD a w x) ∧ F.le F' := by
  refine c28 ?_
  unfold b28
  intro b3 hb3
  refine atI ?_
  have l3 := le_set_fresh (.cells v 28) hb3
  have q3 := set_eq F b3 (.cells v 28)
  generalize F.set b3 (.cells v 28) = F3 at *
  intro b6 hb6
  refine atI ?_
  have f6 : F b6 = none := le_none l3 hb6
  have lx := le_set_fresh (.cells #[Value.slice none 0 0, Value.int .i64 0] 28) hb6
  have q6 := set_eq F3 b6 (.cells #[Value.slice none 0 0, Value.int .i64 0] 28)
  replace q3 := lx _ _ q3
  have l6 := l3.trans lx
  clear lx
  generalize F3.set b6 (.cells #[Value.slice none 0 0, Value.int .i64 0] 28) = F6 at *
  refine ⟨v, ha.size, row_whole q3, ?_⟩
  refine (check_spec (ha.le l6)).mono ?_
  rintro _ F7 ⟨rfl, l7⟩
  replace q3 := l7 _ _ q3
  replace q6 := l7 _ _ q6
  replace l7 := l6.trans l7
  refine ⟨_, rfl, fun h => ?_, fun h => ?_⟩
  · have e : resD a w x = (none0, chk a) := by unfold resD; rw [if_pos h]
    rw [e]
    exact retErr q6 rfl l7 f6
  have h0 : chk a = 0 := by omega
  have bad : w < 0 ∨ 63 < w → b28j1 w x b3 b6 true (fun r F' => DRV F' r (resD a w x) ∧ F.le F') F7 := fun hb => by
    unfold b28j1
    refine ⟨fun _ => ?_, fun hc => by cases hc⟩
    have e : resD a w x = (none0, 1) := by unfold resD; rw [if_neg h, if_pos hb]
    rw [e]
    exact retErr q6 rfl l7 f6
  refine ⟨fun hb => bad (.inl hb), fun hb => ?_⟩
  by_cases hb2 : 63 < w
  · rw [decide_eq_true hb2]
    exact bad (.inr hb2)
  · rw [decide_eq_false hb2]
    unfold b28j1
    refine ⟨fun hc => (by cases hc), fun _ => ⟨v, ha.size, row_whole q3, ?_⟩⟩
    have e : resD a w x = lim (dia (fx w.toNat x (tre a))) := by unfold resD; rw [if_neg h, if_neg (by omega)]
    obtain ⟨ka, ea, la⟩ := chk0 h0
    have ld : F.le (del1 F7 b6) := le_del1 l7 f6
    have hd := ha.le ld
    rw [ea] at hd
    have hw : ((w.toNat : Nat) : Int) = w := by omega
    have hf := fixed_spec hd ka (subs_tre h0) w.toNat x
    rw [hw] at hf
    refine (callD hf q6).mono ?_
    rintro _ F9 ⟨z, rfl, ⟨G, hz, lG, gG⟩, l9, q9⟩
    refine ⟨_, rfl, ?_⟩
    rw [e]
    refine (callDR (limited_spec (hz.beside lG gG)) q9).mono ?_
    rintro _ F10 ⟨z', rfl, ⟨G', hz', lG', gG'⟩, l10, q10⟩
    exact ⟨_, _, rfl, retDR hz' lG' gG' q10 rfl (l7.trans (l9.trans l10)) f6⟩
theorem exists_spec (ha : DV F v a) (w : Int) : Spec prog 29 #[.agg v, vi w] F fun r F' => DRV F' r (exD a w) ∧ F.le F' := by
  refine c29 ?_
  unfold b29
  intro b3 hb3
  refine atI ?_
  have l3 := le_set_fresh (.cells v 28) hb3
  have q3 := set_eq F b3 (.cells v 28)
  generalize F.set b3 (.cells v 28) = F3 at *
  intro b6 hb6
  refine atI ?_
  have f6 : F b6 = none := le_none l3 hb6
  have lx := le_set_fresh (.cells #[Value.slice none 0 0, Value.int .i64 0] 28) hb6
  have q6 := set_eq F3 b6 (.cells #[Value.slice none 0 0, Value.int .i64 0] 28)
  replace q3 := lx _ _ q3
  have l6 := l3.trans lx
  clear lx
  generalize F3.set b6 (.cells #[Value.slice none 0 0, Value.int .i64 0] 28) = F6 at *
  refine ⟨v, ha.size, row_whole q3, ?_⟩
  refine (check_spec (ha.le l6)).mono ?_
  rintro _ F7 ⟨rfl, l7⟩
  replace q3 := l7 _ _ q3
  replace q6 := l7 _ _ q6
  replace l7 := l6.trans l7
  refine ⟨_, rfl, fun h => ?_, fun h => ?_⟩
  · have e : exD a w = (none0, chk a) := by unfold exD; rw [if_pos h]
    rw [e]
    exact retErr q6 rfl l7 f6
  have h0 : chk a = 0 := by omega
  have bad : w < 0 ∨ 63 < w → b29j1 w b3 b6 true (fun r F' => DRV F' r (exD a w) ∧ F.le F') F7 := fun hb => by
    unfold b29j1
    refine ⟨fun _ => ?_, fun hc => by cases hc⟩
    have e : exD a w = (none0, 1) := by unfold exD; rw [if_neg h, if_pos hb]
    rw [e]
    exact retErr q6 rfl l7 f6
  refine ⟨fun hb => bad (.inl hb), fun hb => ?_⟩
  by_cases hb2 : 63 < w
  · rw [decide_eq_true hb2]
    exact bad (.inr hb2)
  · rw [decide_eq_false hb2]
    unfold b29j1
    refine ⟨fun hc => (by cases hc), fun _ => ⟨v, ha.size, row_whole q3, v, ha.size, row_whole q3, ?_⟩⟩
    have e : exD a w = lim (dia (exT w.toNat (tre a))) := by unfold exD; rw [if_neg h, if_neg (by omega)]
    obtain ⟨ka, ea, la⟩ := chk0 h0
    have sa := subs_tre h0
    have ld : F.le (del1 F7 b6) := le_del1 l7 f6
    have hd := ha.le ld
    rw [ea] at hd
    have hw : ((w.toNat : Nat) : Int) = w := by omega
    have hf := fixed_spec hd ka sa w.toNat false
    rw [hw] at hf
    refine (callD hf q6).mono ?_
    rintro _ F9 ⟨z0, rfl, ⟨G0, hz0, lG0, gG0⟩, l9, q9⟩
    refine ⟨_, rfl, row_whole (l9 _ _ q3), ?_⟩
    have ld2 : F.le (del1 F9 b6) := le_del1 (l7.trans l9) f6
    have hd2 := ha.le ld2
    rw [ea] at hd2
    have hf2 := fixed_spec hd2 ka sa w.toNat true
    rw [hw] at hf2
    refine (callD hf2 q9).mono ?_
    rintro _ F10 ⟨z1, rfl, ⟨G1, hz1, lG1, gG1⟩, l10, q10⟩
    have d0 := hz0.beside (lG0.trans l10) gG0
    have d1 := hz1.beside lG1 gG1
    have size0 := hz0.size
    have size1 := hz1.size
    clear hz0 hz1
    obtain ⟨s0, rfl, r0⟩ := d0
    obtain ⟨s1, rfl, r1⟩ := d1
    refine ⟨_, rfl, rfl, rfl, rfl, ?_⟩
    obtain ⟨k0, _, _⟩ := fx_facts w.toNat false ka
    obtain ⟨k1, _, _⟩ := fx_facts w.toNat true ka
    have n0 := fx_length (w := w.toNat) (b := false) ka
    have n1 := fx_length (w := w.toNat) (b := true) ka
    have hlen := ap_length (o := oOr3) k0 k1 (d := leaf false) trivial
    have hpf := prod_fit (a := (subs (fx w.toNat false (tre a))).length) (b := (subs (fx w.toNat true (tre a))).length) (c := (subs (leaf false)).length) (by omega) (by omega) (by simp [subs, vis])
    have hcm := combine_spec (F := del1 F10 b6) (s0 := s0) (s1 := s1) (s2 := Sl.nil) (t0 := fx w.toNat false (tre a)) (t1 := fx w.toNat true (tre a)) (t2 := leaf false) (opv := .func (.func 73) #[] #[]) (o := oOr3)
      r0 r1 (RdS.nil _ _) k0 k1 trivial (by omega) (by omega) (by simp [subs, vis]) (by omega) (op73 _)
    refine (callD hcm q10).mono ?_
    rintro _ F11 ⟨z, rfl, ⟨G, hz, lG, gG⟩, l11, q11⟩
    refine ⟨_, rfl, ?_⟩
    rw [e]
    refine (callDR (limited_spec (hz.beside lG gG)) q11).mono ?_
    rintro _ F12 ⟨z', rfl, ⟨G', hz', lG', gG'⟩, l12, q12⟩
    exact ⟨_, _, rfl, retDR hz' lG' gG' q12 rfl (l7.trans (l9.trans (l10.trans (l11.trans l12)))) f6⟩

/-! Holds -/
/-- A configuration that is given as a number. -/
def cfg (c : Int) : Cf := fun i => c.toNat.testBit i
theorem wu64_eq {x : Int} (h1 : 0 ≤ x) (h2 : x < 18446744073709551616) : IntKind.u64.wrap x = x := by
  unfold IntKind.wrap
  simp only [IntKind.bits, IntKind.signed]
  simp only [Bool.false_and, Bool.false_eq_true, if_false]
  omega
theorem fdiv_pow (n v : Nat) : Int.fdiv (n : Int) (2 ^ v) = ((n / 2 ^ v : Nat) : Int) := by
  have e2 : (2 : Int) ^ v = ((2 ^ v : Nat) : Int) := by simp
  rw [e2, Int.fdiv_eq_ediv_of_nonneg _ (Int.natCast_nonneg _)]
  rfl
theorem ofInt_nat (n : Nat) (h : n < 18446744073709551616) : (BitVec.ofInt (IntKind.u64).bits (n : Int)).toNat = n := by
  show (BitVec.ofInt 64 (n : Int)).toNat = n
  rw [BitVec.toNat_ofInt]
  omega
theorem bit_test {c : Int} (h0 : 0 ≤ c) (h1 : c < 18446744073709551616) {v : Nat} (hv : v < 64) :
    (IntKind.u64.wrap ((BitVec.ofInt (IntKind.u64).bits (Int.fdiv c (2 ^ (min (Int.toNat (v : Int)) (IntKind.u64).bits))) &&& BitVec.ofInt (IntKind.u64).bits (1 : Int)).toNat)) = (1 : Int) ↔ cfg c v = true := by
  obtain ⟨n, rfl⟩ := Int.eq_ofNat_of_zero_le h0
  have hm : min (Int.toNat (v : Int)) (IntKind.u64).bits = v := by simp only [IntKind.bits, Int.toNat_natCast]; omega
  rw [hm, fdiv_pow, BitVec.toNat_and]
  have hle : n / 2 ^ v ≤ n := Nat.div_le_self _ _
  have h1' : (BitVec.ofInt (IntKind.u64).bits (1 : Int)).toNat = 1 := ofInt_nat 1 (by omega)
  rw [ofInt_nat _ (by omega), h1', Nat.and_one_is_mod, wu64_eq (by omega) (by omega)]
  unfold cfg
  rw [Int.toNat_natCast, Nat.testBit_eq_decide_div_mod_eq, decide_eq_true_iff]
  omega
noncomputable def holdsD (a : Dia) (c : Int) : Bool := open Classical in if chk a ≠ 0 then false else (tre a).ev (cfg c)
theorem holds_spec (ha : DV F v a) {c : Int} (h0 : 0 ≤ c) (h1 : c < 18446744073709551616) : Spec prog 21 #[.agg v, .int .u64 c] F fun r F' => r = .bool (holdsD a c) ∧ F.le F' := by
  have ha' := ha
  obtain ⟨s, rfl, hr⟩ := ha
  refine c21 ?_
  unfold b21
  intro b2 hb2
  refine atI ?_
  have l2 := le_set_fresh (.cells #[s.v, vi a.2] 28) hb2
  have q2 := set_eq F b2 (.cells #[s.v, vi a.2] 28)
  generalize F.set b2 (.cells #[s.v, vi a.2] 28) = F2 at *
  refine ⟨_, rfl, row_whole q2, ?_⟩
  refine (check_spec (ha'.le l2)).mono ?_
  rintro _ F3 ⟨rfl, l3⟩
  refine ⟨_, rfl, fun h => ?_, fun h => ?_⟩
  · refine ⟨?_, l2.trans l3⟩
    unfold holdsD
    rw [if_pos h]
  · obtain ⟨ka, ea, la⟩ := chk0 (by omega : chk a = 0)
    have hT := subs_cl ka
    have hr' : RdS F s 3 (bflat (brs (subs (tre a)))) := by rw [ea] at hr; exact hr
    have hlen := hr'.blen
    rw [brs_length] at hlen
    have hsl := subs_tre (by omega : chk a = 0)
    have e2 : a.2 = (num (subs (tre a)) (tre a) : Int) := by conv => lhs; rw [ea]
                                                             rfl
    have he : holdsD a c = (tre a).ev (cfg c) := by unfold holdsD; rw [if_neg h]
    refine ⟨a.2, by rw [cell_eq (l3 _ _ q2)]; rfl, ?_⟩
    refine ⟨fun m i F' => ∃ t', i = (num (subs (tre a)) t' : Int) ∧ inn (subs (tre a)) t' ∧ m = t'.sz ∧ F3.le F' ∧ t'.ev (cfg c) = (tre a).ev (cfg c), (tre a).sz, ⟨tre a, e2, subs_inn ka, rfl, PH.le_rfl, rfl⟩, ?_⟩
    rintro m i F4 ⟨t', rfl, hin, rfl, l4, hev⟩
    unfold b21L1
    refine ⟨fun hlt => ?_, fun hge => ?_⟩
    · cases t' with
      | leaf x => have := num_leaf_le (subs (tre a)) x; omega
      | node w l r =>
        obtain ⟨il, ir⟩ := hT.inn_kids hin
        obtain ⟨o1, _⟩ := hT.inn_ok hin
        have hg := num_ge (S := subs (tre a)) (t := node w l r) rfl
        have hnl := num_le hin
        have hw := w64m2 (n := num (subs (tre a)) (node w l r)) (by omega) hg
        obtain ⟨p, hp, hrow, _⟩ := rdb (hr'.le (l2.trans (l3.trans l4))) (brs_get (num_get (inn_mem hin rfl) rfl))
        refine ⟨s, by rw [cell_eq (l4 _ _ (l3 _ _ q2))]; rfl, p, hp, by rw [hw]; omega, by rw [hw]; omega, barr (br (subs (tre a)) (node w l r)), rfl, by rw [hw]; exact hrow, ?_⟩
        intro b6 hb6
        refine atI ?_
        refine stW (set_eq _ _ _) rfl rfl (st_barr _) ?_
        rw [set_twice]
        have l6 := l4.trans (le_set_fresh (.cells (barr (br (subs (tre a)) (node w l r))) 72) hb6)
        refine ⟨(w : Int), by rw [cell_eq (set_eq _ _ _)]; rfl, by omega, fun hb => ?_, fun hb => ?_⟩
        · have hb' := (bit_test h0 h1 o1).1 hb
          refine ⟨_, by rw [cell_eq (set_eq _ _ _)]; rfl, r.sz, by simp only [sz]; omega, r, rfl, ir, rfl, l6, ?_⟩
          rw [← hev]
          simp [Tr.ev, hb']
        · have hb' : ¬ cfg c w = true := fun hc => hb ((bit_test h0 h1 o1).2 hc)
          refine ⟨_, by rw [cell_eq (set_eq _ _ _)]; rfl, l.sz, by simp only [sz]; omega, l, rfl, il, rfl, l6, ?_⟩
          rw [← hev]
          simp [Tr.ev, hb']
    · unfold b21j1
      refine ⟨?_, l2.trans (l3.trans l4)⟩
      rw [he, ← hev]
      cases t' with
      | leaf x => cases x <;> simp [num, Tr.ev]
      | node w l r => have := num_ge (S := subs (tre a)) (t := node w l r) rfl; omega
end
end Go.Proofs.Ytafojmoeaneedaa
