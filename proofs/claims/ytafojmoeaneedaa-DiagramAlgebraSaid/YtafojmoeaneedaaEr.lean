/-
  The diagrams: Least.
-/
import Derived.Test.YtafojmoeaneedaaEq
namespace Go.Proofs.Ytafojmoeaneedaa
open Go Go.Proofs.Try Tr
set_option maxRecDepth 10000

def leastT : Tr → Nat
  | leaf _ => 0
  | node v l h => if l = leaf false then leastT h ||| 2 ^ v else if h = leaf false then leastT l else min (leastT l) (leastT h ||| 2 ^ v)
theorem leastT_lt : ∀ (t : Tr), t.ok → leastT t < 18446744073709551616
  | leaf _, _ => by simp [leastT]
  | node v l h, ⟨h0, h1, h2, h3, h4, h5⟩ => by
    have il := leastT_lt l h4
    have ih := leastT_lt h h5
    have hp : leastT h ||| 2 ^ v < 2 ^ 64 := Nat.or_lt_two_pow (by omega) (Nat.pow_lt_pow_right (by decide) h0)
    unfold leastT
    split
    · omega
    · split
      · exact il
      · omega
theorem bit_or {x v : Nat} (hx : x < 18446744073709551616) (hv : v < 64) :
    (IntKind.u64.wrap ((BitVec.ofInt (IntKind.u64).bits (x : Int) ||| BitVec.ofInt (IntKind.u64).bits (IntKind.u64.wrap ((1 : Int) * 2 ^ (min (Int.toNat (v : Int)) (IntKind.u64).bits)))).toNat)) = ((x ||| 2 ^ v : Nat) : Int) := by
  have hm : min (Int.toNat (v : Int)) (IntKind.u64).bits = v := by simp only [IntKind.bits, Int.toNat_natCast]; omega
  have hp : 2 ^ v < 2 ^ 64 := Nat.pow_lt_pow_right (by decide) hv
  have e1 : (1 : Int) * 2 ^ v = ((2 ^ v : Nat) : Int) := by simp
  have ho : x ||| 2 ^ v < 2 ^ 64 := Nat.or_lt_two_pow (by omega) hp
  rw [hm, e1]
  generalize 2 ^ v = w at *
  rw [wu64_eq (x := (w : Int)) (by omega) (by omega), BitVec.toNat_or, ofInt_nat _ hx, ofInt_nat _ (by omega), wu64_eq (by omega) (by omega)]
open Classical in
noncomputable def leastD (a : Dia) : Int × Bool := if chk a ≠ 0 then (0, false) else if tre a = leaf false then (0, false) else ((leastT (tre a) : Int), true)

/-- The least numbers so far. -/
def lsA (T : List Tr) (k : Nat) : List Value := (List.range (T.length + 2)).map fun j => Value.int .u64 (if j < k + 2 then (leastT (tr T j) : Int) else 0)
theorem lsA_get {T : List Tr} {k j : Nat} (h : j < k + 2) (hk : k ≤ T.length) : (lsA T k)[j]? = some (.int .u64 (leastT (tr T j))) := by
  unfold lsA
  rw [List.getElem?_map, List.getElem?_range (by omega)]
  simp [h]
theorem lsA_zero (T : List Tr) : List.replicate (T.length + 2) (Value.int .u64 0) = lsA T 0 := by
  apply List.ext_getElem?
  intro j
  unfold lsA
  rw [List.getElem?_map]
  by_cases hj : j < T.length + 2
  · rw [List.getElem?_range hj]
    simp only [Option.map_some, List.getElem?_replicate]
    rw [if_pos hj]
    match j, hj with
    | 0, _ => rfl
    | 1, _ => rfl
    | j + 2, hj => rw [if_neg (by omega)]
  · have e2 : (List.range (T.length + 2))[j]? = none := by simp; omega
    rw [e2]
    simp only [List.getElem?_replicate, Option.map_none]
    rw [if_neg (by omega)]
theorem lsA_step {T : List Tr} {k : Nat} (hk : k < T.length) : (lsA T k).set (k + 2) (.int .u64 (leastT (tr T (k + 2)))) = lsA T (k + 1) := by
  apply List.ext_getElem?
  intro j
  unfold lsA
  rw [List.getElem?_set, List.getElem?_map, List.getElem?_map]
  by_cases hj : j < T.length + 2
  · rw [List.getElem?_range hj]
    simp only [Option.map_some, List.length_map, List.length_range]
    by_cases h1 : k + 2 = j
    · subst h1
      simp
      omega
    · rw [if_neg h1]
      by_cases h2 : j < k + 2
      · rw [if_pos h2, if_pos (by omega)]
      · rw [if_neg h2, if_neg (by omega)]
  · have e2 : (List.range (T.length + 2))[j]? = none := by simp; omega
    rw [e2]
    simp only [Option.map_none]
    rw [if_neg (by omega)]
theorem num_zero {S : List Tr} {t : Tr} : num S t = 0 ↔ t = leaf false := by
  cases t with
  | leaf b => cases b <;> simp [num]
  | node v l h => have := num_ge (S := S) (t := node v l h) rfl; constructor
                  · intro h; omega
                  · intro h; cases h

section
variable {F : PH} {v : Array Value} {a : Dia}
theorem least_spec (ha : DV F v a) : Spec prog 31 #[.agg v] F fun r F' => r = .tuple #[.int .u64 (leastD a).1, .bool (leastD a).2] ∧ F.le F' := by
  have ha' := ha
  obtain ⟨s, rfl, hr⟩ := ha
  refine c31 ?_
  unfold b31
  intro b1 hb1
  refine atI ?_
  have l1 := le_set_fresh (.cells #[s.v, vi a.2] 28) hb1
  have q1 := set_eq F b1 (.cells #[s.v, vi a.2] 28)
  generalize F.set b1 (.cells #[s.v, vi a.2] 28) = F2 at *
  refine ⟨_, rfl, row_whole q1, ?_⟩
  refine (check_spec (ha'.le l1)).mono ?_
  rintro _ F3 ⟨rfl, lx⟩
  replace q1 := lx _ _ q1
  have l3 := l1.trans lx
  clear lx
  refine ⟨_, rfl, fun h => ?_, fun h => ?_⟩
  · refine ⟨?_, l3⟩
    unfold leastD
    rw [if_pos h]
  have h0 : chk a = 0 := by omega
  obtain ⟨ka, ea, la⟩ := chk0 h0
  have hT := subs_cl ka
  have hr' : RdS F s 3 (bflat (brs (subs (tre a)))) := by rw [ea] at hr; exact hr
  have hlen := hr'.blen
  rw [brs_length] at hlen
  have hsl := subs_tre h0
  have e2 : a.2 = (num (subs (tre a)) (tre a) : Int) := by conv => lhs; rw [ea]
                                                           rfl
  refine ⟨a.2, by rw [cell_eq q1]; rfl, fun hz => ?_, fun hz => ?_⟩
  · refine ⟨?_, l3⟩
    have : tre a = leaf false := (num_zero (S := subs (tre a))).1 (by omega)
    unfold leastD
    rw [if_neg h, if_pos this]
  have hne : ¬ tre a = leaf false := fun e => hz (by
    have := (num_zero (S := subs (tre a)) (t := tre a)).2 e
    omega)
  have hld : leastD a = ((leastT (tre a) : Int), true) := by unfold leastD; rw [if_neg h, if_neg hne]
  have hw2 : IntKind.i64.wrap ((s.len : Int) + 2) = (((subs (tre a)).length + 2 : Nat) : Int) := by rw [hlen, w64_eq (by omega) (by omega)]; omega
  refine ⟨s, by rw [cell_eq q1]; rfl, ?_⟩
  rw [hw2]
  refine runs_makeSlice underlying92 sz39 zr39 rfl (by omega) (Int.le_refl _) (by omega) (by omega) ?_
  intro g hg
  rw [zc1 _ rfl, Int.toNat_natCast, lsA_zero]
  have fg : F g = none := le_none l3 hg
  have l4 := l3.trans (le_set_fresh (.cells (lsA (subs (tre a)) 0).toArray 39) hg)
  have q1' := le_set_fresh (.cells (lsA (subs (tre a)) 0).toArray 39) hg _ _ q1
  have qg := set_eq F3 g (.cells (lsA (subs (tre a)) 0).toArray 39)
  generalize F3.set g (.cells (lsA (subs (tre a)) 0).toArray 39) = F4 at *
  have n1 : b1 ≠ g := ne_of_fresh hg q1
  refine ⟨_, rfl, s, by rw [cell_eq q1']; rfl, ?_⟩
  refine ⟨fun m i F' => ∃ k : Nat, i = k ∧ k ≤ (subs (tre a)).length ∧ m = (subs (tre a)).length - k ∧ F.le F' ∧ F' b1 = some (.cells #[s.v, vi a.2] 28) ∧ F' g = some (.cells (lsA (subs (tre a)) k).toArray 39), (subs (tre a)).length,
    ⟨0, rfl, by omega, rfl, l4, q1', qg⟩, ?_⟩
  rintro m i F5 ⟨k, rfl, hk, rfl, l5, q15, qg5⟩
  unfold b31L1
  refine ⟨fun hlt => ?_, fun hge => ?_⟩
  · have hkT : k < (subs (tre a)).length := by omega
    obtain ⟨hck, vv, lo', hi', hget, hlo, hhi, hok, _⟩ := cl_get hT k hkT
    have hlo2 := num_le hlo
    have hhi2 := num_le hhi
    rw [← num_take hlo, List.length_take] at hlo2
    rw [← num_take hhi, List.length_take] at hhi2
    have inl : inn (subs (tre a)) lo' := by rw [← List.take_append_drop k (subs (tre a))]; exact inn_append hlo
    have inh : inn (subs (tre a)) hi' := by rw [← List.take_append_drop k (subs (tre a))]; exact inn_append hhi
    have hk2 : tr (subs (tre a)) (k + 2) = node vv lo' hi' := by
      unfold tr
      rw [if_neg (by omega), if_neg (by omega), Nat.add_sub_cancel, List.getD_eq_getElem?_getD, hget]
      rfl
    obtain ⟨o1, o2, o3, o4, o5, o6⟩ := hok
    obtain ⟨p, hp, hrow, _⟩ := rdb (hr'.le l5) (brs_get hget)
    refine ⟨p, hp, by omega, hlt, barr (br (subs (tre a)) (node vv lo' hi')), rfl, by simpa using hrow, ?_⟩
    intro b6 hb6
    refine atI ?_
    refine stW (set_eq _ _ _) rfl rfl (st_barr _) ?_
    rw [set_twice]
    have lx := le_set_fresh (.cells (barr (br (subs (tre a)) (node vv lo' hi'))) 72) hb6
    have q6 := set_eq F5 b6 (.cells (barr (br (subs (tre a)) (node vv lo' hi'))) 72)
    replace q15 := lx _ _ q15
    replace qg5 := lx _ _ qg5
    have l6 := l5.trans lx
    clear lx
    generalize F5.set b6 (.cells (barr (br (subs (tre a)) (node vv lo' hi'))) 72) = F6 at *
    have gl : (lsA (subs (tre a)) k)[num (subs (tre a)) lo']? = some (.int .u64 (leastT lo')) := by rw [lsA_get (by omega) (by omega), tr_num hT inl]
    have gh : (lsA (subs (tre a)) k)[num (subs (tre a)) hi']? = some (.int .u64 (leastT hi')) := by rw [lsA_get (by omega) (by omega), tr_num hT inh]
    have hw4 : IntKind.i64.wrap ((k : Int) + 2) = ((k + 2 : Nat) : Int) := by rw [w64_eq (by omega) (by omega)]; omega
    have hw1 : IntKind.i64.wrap ((k : Int) + 1) = ((k + 1 : Nat) : Int) := w64s (by omega)
    have hor := bit_or (leastT_lt hi' o6) o1
    have zl : (num (subs (tre a)) lo' : Int) = 0 ↔ lo' = leaf false := by rw [← num_zero (S := subs (tre a))]; omega
    have zh : (num (subs (tre a)) hi' : Int) = 0 ↔ hi' = leaf false := by rw [← num_zero (S := subs (tre a))]; omega
    have hln : leastT (node vv lo' hi') = if lo' = leaf false then leastT hi' ||| 2 ^ vv else if hi' = leaf false then leastT lo' else min (leastT lo') (leastT hi' ||| 2 ^ vv) := by conv => lhs; unfold leastT
    -- the store and the next round
    have rest : ∀ (x : Int), x = (leastT (node vv lo' hi') : Int) → ∀ {N : Int → PH → Prop} {R : Value → PH → Prop},
        (∀ F', F.le F' → F' b1 = some (.cells #[s.v, vi a.2] 28) → F' g = some (.cells (lsA (subs (tre a)) (k + 1)).toArray 39) → N ((k + 1 : Nat) : Int) F') →
        ∃ a50_ : Addr, (some (Addr.mk g 0 none)) = some a50_ ∧ 0 ≤ (IntKind.i64.wrap ((k : Int) + (2 : Int))) ∧ (IntKind.i64.wrap ((k : Int) + (2 : Int))) < (((subs (tre a)).length + 2 : Nat) : Int) ∧
        ∃ c e, F6 (Addr.add a50_ (Int.toNat (IntKind.i64.wrap ((k : Int) + (2 : Int))) * 1)).block = some (.cells c e (0, 0)) ∧ (Addr.add a50_ (Int.toNat (IntKind.i64.wrap ((k : Int) + (2 : Int))) * 1)).spot = none ∧ (Addr.add a50_ (Int.toNat (IntKind.i64.wrap ((k : Int) + (2 : Int))) * 1)).off < c.size ∧
        atF (F6.set (Addr.add a50_ (Int.toNat (IntKind.i64.wrap ((k : Int) + (2 : Int))) * 1)).block (.cells (c.setIfInBounds (Addr.add a50_ (Int.toNat (IntKind.i64.wrap ((k : Int) + (2 : Int))) * 1)).off (Value.int .u64 x)) e)) fun F =>
        b31j2 N b1 ⟨some ⟨g, 0, none⟩, (subs (tre a)).length + 2, (subs (tre a)).length + 2⟩ s k R F := by
      intro x hx N R hN
      rw [hw4]
      refine ⟨_, rfl, by omega, by omega, ?_⟩
      refine st1' (b := g) (o := k + 2) (by simp; omega) qg5 (by simp [lsA]; omega) ?_
      rw [List.setIfInBounds_toArray, hx, ← hk2, lsA_step hkT]
      unfold b31j2
      rw [hw1]
      exact hN _ (le_set_new l6 fg) (by rw [set_ne _ _ n1]; exact q15) (set_eq _ _ _)
    have done : ∀ F' : PH, F.le F' → F' b1 = some (.cells #[s.v, vi a.2] 28) → F' g = some (.cells (lsA (subs (tre a)) (k + 1)).toArray 39) → ∃ m', m' < (subs (tre a)).length - k ∧ ∃ k' : Nat, ((k + 1 : Nat) : Int) = k' ∧ k' ≤ (subs (tre a)).length ∧ m' = (subs (tre a)).length - k' ∧ F.le F' ∧ F' b1 = some (.cells #[s.v, vi a.2] 28) ∧ F' g = some (.cells (lsA (subs (tre a)) k').toArray 39) := fun F' h1 h2 h3 =>
      ⟨(subs (tre a)).length - (k + 1), by omega, k + 1, rfl, by omega, rfl, h1, h2, h3⟩
    have c1 : F6.cell ⟨b6, 1, none⟩ = some (vi (num (subs (tre a)) lo')) := by rw [cell_eq q6]; rfl
    have c2 : F6.cell ⟨b6, 2, none⟩ = some (vi (num (subs (tre a)) hi')) := by rw [cell_eq q6]; rfl
    have c0 : F6.cell ⟨b6, 0, none⟩ = some (vi vv) := by rw [cell_eq q6]; rfl
    refine ⟨_, c1, _, rfl, by omega, by simp only; omega, (leastT lo' : Int), by simp only [add_mk]; rw [cell_eq qg5]; simpa using gl, _, c2, _, rfl, by omega, by simp only; omega, (leastT hi' : Int), by simp only [add_mk]; rw [cell_eq qg5]; simpa using gh, _, c0, by omega, _, c1, fun hz1 => ?_, fun hz1 => ?_⟩
    · rw [hor]
      exact rest _ (by rw [hln, if_pos (zl.1 hz1)]) done
    · have hl0 : ¬ lo' = leaf false := fun e => hz1 (zl.2 e)
      refine ⟨_, c2, fun hz2 => ?_, fun hz2 => ?_⟩
      · exact rest _ (by rw [hln, if_neg hl0, if_pos (zh.1 hz2)]) done
      · rw [hor]
        exact rest _ (by rw [hln, if_neg hl0, if_neg (fun e => hz2 (zh.2 e))]; omega) done
  · obtain rfl : k = (subs (tre a)).length := by omega
    unfold b31j1
    have hnl := num_le (subs_inn ka)
    have gt : (lsA (subs (tre a)) (subs (tre a)).length)[num (subs (tre a)) (tre a)]? = some (.int .u64 (leastT (tre a))) := by rw [lsA_get (by omega) (by omega), tr_num hT (subs_inn ka)]
    refine ⟨(num (subs (tre a)) (tre a) : Int), by rw [cell_eq q15, ← e2]; rfl, _, rfl, by omega, by simp only; omega, (leastT (tre a) : Int), by simp only [add_mk]; rw [cell_eq qg5]; simpa using gt, by rw [hld], l5⟩
end
end Go.Proofs.Ytafojmoeaneedaa
