/-
  The reference: Count.
-/
import Derived.Test.YtafojmoeaneedaaFw
import Derived.Test.YtafojmoeaneedaaEr
import Derived.Test.YtafojmoeaneedaaEo
namespace Go.Proofs.Ytafojmoeaneedaa
open Go Go.Proofs.Try Tr
set_option maxRecDepth 10000

section
variable {F : PH} {v : Array Value} {a : Dia}
def lsL (T : List Tr) (k : Nat) : List Value := (List.range (k + 2)).map fun j => Value.int .u64 (leastT (tr T j) : Int)
theorem lsL_get {F : PH} {N : Sl} {T : List Tr} {k j : Nat} (h : RdS F N 1 (lsL T k)) (hj : j < k + 2) : N.len = k + 2 ∧ ∃ a, N.base = some a ∧ F.cell (Addr.add a (Int.toNat (j : Int) * 1)) = some (.int .u64 (leastT (tr T j) : Int)) := by
  have hl := h.len
  simp [lsL] at hl
  refine ⟨by omega, ?_⟩
  obtain ⟨b, o, h1, h2⟩ := h.cells (by omega)
  refine ⟨_, h1, ?_⟩
  have := h2 j (by simp [lsL]; exact hj)
  simpa [lsL] using this
theorem least_ref (fa : Few a) (ha : DV F v a) : Spec prog 51 #[.agg v] F fun r F' => r = .tuple #[.int .u64 (leastD a).1, .bool (leastD a).2] ∧ F.le F' := by
  have ha' := ha
  obtain ⟨s, rfl, hr⟩ := ha
  refine c51 ?_
  unfold b51
  intro b1 hb1
  refine atI ?_
  have l1 := le_set_fresh (.cells #[s.v, vi a.2] 28) hb1
  have q1 := set_eq F b1 (.cells #[s.v, vi a.2] 28)
  generalize F.set b1 (.cells #[s.v, vi a.2] 28) = F1 at *
  refine ⟨_, rfl, row_whole q1, ?_⟩
  refine (check_ref (ha'.le l1) (by have : a.1.length ≤ 40 := fa; omega)).mono ?_
  rintro _ F2 ⟨rfl, lx⟩
  replace q1 := lx _ _ q1
  have l2 := l1.trans lx
  refine ⟨_, rfl, fun h => ⟨by unfold leastD; rw [if_pos h], l2⟩, fun h => ?_⟩
  obtain ⟨ka, ea, la⟩ := chk0 (by omega : chk a = 0)
  have hT := subs_cl ka
  have hr' : RdS F s 3 (bflat (brs (subs (tre a)))) := by rw [ea] at hr; exact hr
  have hlen := hr'.blen
  rw [brs_length] at hlen
  have hsl := few_subs fa (by omega : chk a = 0)
  have e2 : a.2 = (num (subs (tre a)) (tre a) : Int) := by conv => lhs; rw [ea]
                                                           rfl
  refine ⟨a.2, by rw [cell_eq q1]; rfl, fun hz => ?_, fun hz => ?_⟩
  · have : tre a = leaf false := (num_zero (S := subs (tre a))).1 (by omega)
    refine ⟨?_, l2⟩
    unfold leastD
    rw [if_neg h, if_pos this]
  have hne : ¬ tre a = leaf false := fun e => hz (by
    have := (num_zero (S := subs (tre a)) (t := tre a)).2 e
    omega)
  have hld : leastD a = ((leastT (tre a) : Int), true) := by unfold leastD; rw [if_neg h, if_neg hne]
  intro b17 hb17
  refine atI ?_
  have l17 := le_set_fresh (.cells #[Value.int .u64 0, Value.int .u64 0] 39) hb17
  have q17 := set_eq F2 b17 (.cells #[Value.int .u64 0, Value.int .u64 0] 39)
  have f17 : F2 b17 = none := hb17
  generalize F2.set b17 (.cells #[Value.int .u64 0, Value.int .u64 0] 39) = F3 at *
  have ho0 : OwnS F3 39 1 ⟨some ⟨b17, 0, none⟩, 2, 2⟩ (lsL (subs (tre a)) 0) := by
    have h0 : tr (subs (tre a)) 0 = leaf false := rfl
    have h1 : tr (subs (tre a)) 1 = leaf true := rfl
    have e : lsL (subs (tre a)) 0 = [Value.int .u64 0, Value.int .u64 0] := by simp [lsL, List.range_succ, h0, h1, leastT]
    rw [e]
    exact .inr ⟨b17, _, rfl, q17, rfl, Nat.le_refl _, rfl, rfl⟩
  refine ⟨fun m N i F' => ∃ k : Nat, i = k ∧ k ≤ (subs (tre a)).length ∧ m = (subs (tre a)).length - k ∧ F2.le F' ∧ OwnS F' 39 1 N (lsL (subs (tre a)) k) ∧ ∀ x, N.base = some x → F2 x.block = none, (subs (tre a)).length,
    ⟨0, rfl, by omega, rfl, l17, ho0, fun x hx => by cases hx; exact f17⟩, ?_⟩
  rintro m N i F5 ⟨k, rfl, hk, rfl, l5, ho, hn⟩
  unfold b51L1
  have cs : ∀ {G : PH}, F2.le G → G.cell (Addr.mk b1 0 none) = some s.v := fun h => by rw [cell_eq (h _ _ q1)]; rfl
  refine ⟨s, cs l5, fun hlt => ?_, fun hge => ?_⟩
  · have hkT : k < (subs (tre a)).length := by omega
    obtain ⟨hck, vv, lo', hi', hget, hlo, hhi, hok, _⟩ := cl_get hT k hkT
    have hlo2 := num_le hlo
    have hhi2 := num_le hhi
    rw [← num_take hlo, List.length_take] at hlo2
    rw [← num_take hhi, List.length_take] at hhi2
    have inl : inn (subs (tre a)) lo' := by rw [← List.take_append_drop k (subs (tre a))]; exact inn_append hlo
    have inh : inn (subs (tre a)) hi' := by rw [← List.take_append_drop k (subs (tre a))]; exact inn_append hhi
    have hk2 : tr (subs (tre a)) (k + 2) = node vv lo' hi' := by
      unfold tr
      rw [if_neg (by omega), if_neg (by omega), Nat.add_sub_cancel, List.getD_eq_getElem?_getD, hget]
      rfl
    obtain ⟨o1, o2, o3, o4, o5, o6⟩ := hok
    obtain ⟨p, hp, hrow, _⟩ := rdb (hr'.le (l2.trans l5)) (brs_get hget)
    refine ⟨s, cs l5, p, hp, by omega, hlt, barr (br (subs (tre a)) (node vv lo' hi')), rfl, by simpa using hrow, ?_⟩
    intro b6 hb6
    refine atI ?_
    refine stW (set_eq _ _ _) rfl rfl (st_barr _) ?_
    rw [set_twice]
    have lx := le_set_fresh (.cells (barr (br (subs (tre a)) (node vv lo' hi'))) 72) hb6
    have q6 := set_eq F5 b6 (.cells (barr (br (subs (tre a)) (node vv lo' hi'))) 72)
    have l6 := l5.trans lx
    have ho6 := ho.upto lx
    clear lx
    generalize F5.set b6 (.cells (barr (br (subs (tre a)) (node vv lo' hi'))) 72) = F6 at *
    obtain ⟨hNl, al, hal, gl⟩ := lsL_get ho6.rd (j := num (subs (tre a)) lo') (by omega)
    obtain ⟨_, ah, hah, gh⟩ := lsL_get ho6.rd (j := num (subs (tre a)) hi') (by omega)
    rw [tr_num hT inl] at gl
    rw [tr_num hT inh] at gh
    have hor := bit_or (leastT_lt hi' o6) o1
    have zl : (num (subs (tre a)) lo' : Int) = 0 ↔ lo' = leaf false := by rw [← num_zero (S := subs (tre a))]; omega
    have zh : (num (subs (tre a)) hi' : Int) = 0 ↔ hi' = leaf false := by rw [← num_zero (S := subs (tre a))]; omega
    have hln : leastT (node vv lo' hi') = if lo' = leaf false then leastT hi' ||| 2 ^ vv else if hi' = leaf false then leastT lo' else min (leastT lo') (leastT hi' ||| 2 ^ vv) := by conv => lhs; unfold leastT
    have c1 : F6.cell ⟨b6, 1, none⟩ = some (vi (num (subs (tre a)) lo')) := by rw [cell_eq q6]; rfl
    have c2 : F6.cell ⟨b6, 2, none⟩ = some (vi (num (subs (tre a)) hi')) := by rw [cell_eq q6]; rfl
    have c0 : F6.cell ⟨b6, 0, none⟩ = some (vi vv) := by rw [cell_eq q6]; rfl
    have rest : ∀ (x : Int), x = (leastT (node vv lo' hi') : Int) → ∀ {NN : Sl → Int → PH → Prop} {R : Value → PH → Prop},
        (∀ N' F', F2.le F' → OwnS F' 39 1 N' (lsL (subs (tre a)) (k + 1)) → (∀ x, N'.base = some x → F2 x.block = none) → NN N' ((k + 1 : Nat) : Int) F') → b51j2 NN b1 N k x R F6 := by
      intro x hx NN R hN
      unfold b51j2
      intro b61 hb61
      refine atI ?_
      have l61 := le_set_fresh (.cells #[Value.int .u64 x] 39) hb61
      have q61 := set_eq F6 b61 (.cells #[Value.int .u64 x] 39)
      have ho61 := ho6.upto l61
      generalize F6.set b61 (.cells #[Value.int .u64 x] 39) = F7 at *
      refine own_app (F0 := F2) (bytes := 8) (z := .int .u64 0) (news := [Value.int .u64 x]) underlying92 sz39 zr39 rfl (by omega) (l6.trans l61) ho61 hn (RdS.new q61 rfl rfl (Nat.le_refl _)) (by simp [storable]) (by simp only; omega) (by simp only; omega) ?_
      intro s' F8 h1 h2 _ h4 _ _
      refine ⟨s', rfl, ?_⟩
      rw [w64s (by omega)]
      refine hN s' F8 h1 ?_ h4
      have e : lsL (subs (tre a)) (k + 1) = lsL (subs (tre a)) k ++ [Value.int .u64 x] := by
        unfold lsL
        rw [List.range_succ, List.map_append, hx]
        simp only [List.map_cons, List.map_nil]
        rw [hk2]
      rw [e]
      exact h2
    have done : ∀ N' F', F2.le F' → OwnS F' 39 1 N' (lsL (subs (tre a)) (k + 1)) → (∀ x, N'.base = some x → F2 x.block = none) → ∃ m', m' < (subs (tre a)).length - k ∧ ∃ k' : Nat, ((k + 1 : Nat) : Int) = k' ∧ k' ≤ (subs (tre a)).length ∧ m' = (subs (tre a)).length - k' ∧ F2.le F' ∧ OwnS F' 39 1 N' (lsL (subs (tre a)) k') ∧ ∀ x, N'.base = some x → F2 x.block = none := fun N' F' h1 h2 h3 =>
      ⟨(subs (tre a)).length - (k + 1), by omega, k + 1, rfl, by omega, rfl, h1, h2, h3⟩
    have hwv : IntKind.u64.wrap (vv : Int) = (vv : Int) := wu64_eq (by omega) (by omega)
    refine ⟨_, c1, al, hal, by omega, by omega, _, gl, _, c2, ah, hah, by omega, by omega, _, gh, (vv : Int), c0, by rw [hwv]; omega, _, c1, ?_⟩
    rw [hwv, hor]
    refine ⟨fun hz1 => rest _ (by rw [hln, if_pos (zl.1 hz1)]) done, fun hz1 => ?_⟩
    have hl0 : ¬ lo' = leaf false := fun e => hz1 (zl.2 e)
    refine ⟨_, c2, fun hz2 => ?_, fun hz2 => ?_⟩
    · have hh0 : ¬ hi' = leaf false := fun e => hz2 (zh.2 e)
      refine ⟨fun hc => rest _ (by rw [hln, if_neg hl0, if_neg hh0]; omega) done, fun hc => rest _ (by rw [hln, if_neg hl0, if_neg hh0]; omega) done⟩
    · exact rest _ (by rw [hln, if_neg hl0, if_pos (zh.1 (by omega))]) done
  · obtain rfl : k = (subs (tre a)).length := by omega
    unfold b51j1
    have hnl := num_le (subs_inn ka)
    obtain ⟨hNl, al, hal, gl⟩ := lsL_get ho.rd (j := num (subs (tre a)) (tre a)) (by omega)
    rw [tr_num hT (subs_inn ka)] at gl
    exact ⟨(num (subs (tre a)) (tre a) : Int), by rw [cell_eq (l5 _ _ q1), ← e2]; rfl, al, hal, by omega, by omega, _, gl, by rw [hld], l2.trans l5⟩

theorem nat_ref {n : Nat} (hn : n < 18446744073709551616) : Spec prog 88 #[.int .u64 (n : Int)] F fun r F' => ∃ s', r = s'.v ∧ NV F' s' n ∧ F.le F' := by
  refine c88 ?_
  unfold b88
  intro b9 hb9
  refine atI ?_
  have hd : Int.fdiv (n : Int) (2 ^ (min (Int.toNat (32 : Int)) (IntKind.u64).bits)) = ((n / 4294967296 : Nat) : Int) := fdiv_pow n 32
  rw [hd, wu32, wu32]
  have hle := le_set_fresh (.cells #[Value.int .u32 ((n % 4294967296 : Nat) : Int), Value.int .u32 ((n / 4294967296 % 4294967296 : Nat) : Int)] 75) hb9
  have q9 := set_eq F b9 (.cells #[Value.int .u32 ((n % 4294967296 : Nat) : Int), Value.int .u32 ((n / 4294967296 % 4294967296 : Nat) : Int)] 75)
  generalize F.set b9 (.cells #[Value.int .u32 ((n % 4294967296 : Nat) : Int), Value.int .u32 ((n / 4294967296 % 4294967296 : Nat) : Int)] 75) = G at *
  have hb : ∀ x ∈ [n % 4294967296, n / 4294967296 % 4294967296], x < 4294967296 := fun x hx => by
    simp only [List.mem_cons, List.not_mem_nil, or_false] at hx
    rcases hx with rfl | rfl <;> exact Nat.mod_lt _ (by decide)
  have hlv : lv [n % 4294967296, n / 4294967296 % 4294967296] = n := by
    simp only [lv]
    have h1 := Nat.mod_add_div n 4294967296
    have h2 : n / 4294967296 % 4294967296 = n / 4294967296 := Nat.mod_eq_of_lt (Nat.div_lt_of_lt_mul hn)
    rw [h2]
    omega
  have hr0 : RdS G ⟨some ⟨b9, 0, none⟩, 2, 2⟩ 1 (u32s [n % 4294967296, n / 4294967296 % 4294967296]) := RdS.new q9 rfl rfl (Nat.le_refl _)
  generalize hl : [n % 4294967296, n / 4294967296 % 4294967296] = l at *
  have hl2 : l.length = 2 := by rw [← hl]; rfl
  refine ⟨fun m out F' => ∃ k : Nat, k ≤ 2 ∧ m = k ∧ F' = G ∧ RdS G out 1 (u32s (l.take k)) ∧ ∀ x ∈ l.drop k, x = 0, 2, ⟨2, Nat.le_refl _, rfl, rfl, by rw [List.take_of_length_le (by omega)]; exact hr0, by rw [List.drop_of_length_le (by omega)]; simp⟩, ?_⟩
  rintro m out F' ⟨k, hk, hm, rfl, hr, hz⟩
  have hol : out.len = k := by rw [hr.ulen, List.length_take]; omega
  have fin : (∀ h : l.take k ≠ [], (l.take k).getLast h ≠ 0) → b88j1 out (fun r F'' => ∃ s', r = s'.v ∧ NV F'' s' n ∧ F.le F'') F' := fun hlast => by
    unfold b88j1
    refine ⟨out, rfl, ?_, hle⟩
    have e : lv l = lv (l.take k) := by
      conv => lhs; rw [← List.take_append_drop k l]
      rw [lv_append, lv_zeros _ hz]; simp
    unfold NV
    rw [← hlv, e, lm_lv _ (fun x hx => hb x (List.mem_of_mem_take hx)) hlast]
    exact hr
  unfold b88L1
  refine ⟨fun h => ?_, fun h => ?_⟩
  · have hk1 : k - 1 < l.length := by omega
    have hw : IntKind.i64.wrap ((out.len : Int) - 1) = ((k - 1 : Nat) : Int) := by rw [w64_eq (by omega) (by omega)]; omega
    have hg : (l.take k)[k - 1]? = some l[k - 1] := by rw [List.getElem?_take_of_lt (by omega), List.getElem?_eq_getElem hk1]
    obtain ⟨a, ha, hc⟩ := hr.u32 hg
    rw [hw]
    refine ⟨a, ha, by omega, by omega, _, hc, fun h0 => ?_, fun h0 => ?_⟩
    · have hcap := hr.cap
      refine ⟨by omega, by omega, by simp only [Int.toNat_natCast]; omega, k - 1, by omega, k - 1, by omega, rfl, rfl, ?_, fun x hx => ?_⟩
      · have hcut := hr.cut (l := 0) (r := k - 1) (m := out.cap) (by omega) (by omega) (by omega)
        have e2 : ((u32s (l.take k)).drop (0 * 1)).take ((k - 1 - 0) * 1) = u32s (l.take (k - 1)) := by
          simp only [Nat.zero_mul, List.drop_zero, Nat.sub_zero, Nat.mul_one, u32s, ← List.map_take, List.take_take]
          rw [Nat.min_eq_left (by omega)]
        rw [e2] at hcut
        simpa using hcut
      · rw [List.drop_eq_getElem_cons hk1] at hx
        rcases List.mem_cons.1 hx with rfl | hx
        · omega
        · rw [show k - 1 + 1 = k by omega] at hx
          exact hz x hx
    · refine fin fun hne => ?_
      have e : (l.take k).getLast hne = l[k - 1] := by
        rw [List.getLast_eq_getElem]
        simp only [List.length_take, List.getElem_take]
        congr 1
        omega
      rw [e]
      omega
  · obtain rfl : k = 0 := by omega
    exact fin fun hne => absurd (by simp) hne
end
theorem sameNat_spec {F : PH} {s s' : Sl} {n : Nat} (h : NV F s n) (h' : NV F s' n) (hl : (lm n).length ≤ 1000) : Spec prog 53 #[s.v, s'.v] F fun r F' => r = .bool true ∧ F' = F := by
  have e1 := RdS.ulen h
  have e2 := RdS.ulen h'
  refine c53 ?_
  unfold b53
  refine ⟨fun hn => absurd (by rw [e1, e2]) hn, fun _ => ?_⟩
  refine ⟨fun m i F' => ∃ k : Nat, i = k ∧ k ≤ (lm n).length ∧ m = (lm n).length - k ∧ F' = F, (lm n).length, ⟨0, rfl, by omega, rfl, rfl⟩, ?_⟩
  rintro m i F' ⟨k, rfl, hk, rfl, rfl⟩
  unfold b53L1
  refine ⟨fun hlt => ?_, fun _ => ⟨rfl, rfl⟩⟩
  have hkz : k < (lm n).length := by omega
  obtain ⟨a, ha, hc⟩ := RdS.u32 h (List.getElem?_eq_getElem hkz)
  obtain ⟨a', ha', hc'⟩ := RdS.u32 h' (List.getElem?_eq_getElem hkz)
  exact ⟨a, ha, by omega, by omega, _, hc, a', ha', by omega, by omega, _, hc', fun hn => absurd rfl hn, fun _ => ⟨(lm n).length - (k + 1), by omega, k + 1, w64s (by omega), by omega, rfl, rfl⟩⟩
theorem cv_lt {n : Nat} (hn : n ≤ 64) : ∀ (t : Tr), t.ok → below n t → t ≠ leaf true → cv n t < 2 ^ (n - min n t.top)
  | leaf b, _, _, h => by
    cases b with
    | true => exact absurd rfl h
    | false => simp only [cv, Bool.false_eq_true, if_false]; exact Nat.pow_pos (by decide)
  | node v l h, ⟨h0, h1, h2, h3, h4, h5⟩, ⟨b0, b1, b2⟩, _ => by
    have il := cv_le hn l h4 b1
    have ih := cv_le hn h h5 b2
    have key : ∀ (x m : Nat), v < m → x ≤ 2 ^ (n - min n m) → x * 2 ^ (min n m - (v + 1)) ≤ 2 ^ (n - (v + 1)) := fun x m hm hx => by
      calc x * 2 ^ (min n m - (v + 1)) ≤ 2 ^ (n - min n m) * 2 ^ (min n m - (v + 1)) := Nat.mul_le_mul_right _ hx
        _ = 2 ^ (n - (v + 1)) := by rw [← Nat.pow_add]; congr 1; omega
    have keyS : ∀ (x m : Nat), v < m → x < 2 ^ (n - min n m) → x * 2 ^ (min n m - (v + 1)) < 2 ^ (n - (v + 1)) := fun x m hm hx => by
      calc x * 2 ^ (min n m - (v + 1)) < 2 ^ (n - min n m) * 2 ^ (min n m - (v + 1)) := Nat.mul_lt_mul_of_pos_right hx (Nat.pow_pos (by decide))
        _ = 2 ^ (n - (v + 1)) := by rw [← Nat.pow_add]; congr 1; omega
    have k1 := key _ _ h1 il
    have k2 := key _ _ h2 ih
    have e : n - min n (node v l h).top = n - (v + 1) + 1 := by simp only [top]; omega
    rw [e, Nat.pow_succ]
    simp only [cv]
    by_cases hl : l = leaf true
    · have hh : h ≠ leaf true := fun e => h3 (by rw [hl, e])
      have := keyS _ _ h2 (cv_lt hn h h5 b2 hh)
      omega
    · have := keyS _ _ h1 (cv_lt hn l h4 b1 hl)
      omega
def cvL (n : Nat) (T : List Tr) (k : Nat) : List Value := (List.range k).map fun j => Value.int .u64 (cv n (tr T (j + 2)) : Int)

theorem shl64 {x m : Nat} (hm : m ≤ 64) (hx : x * 2 ^ m < 18446744073709551616) : IntKind.u64.wrap ((x : Int) * 2 ^ (min (Int.toNat (m : Int)) (IntKind.u64).bits)) = ((x * 2 ^ m : Nat) : Int) := by
  have e0 : min (Int.toNat (m : Int)) (IntKind.u64).bits = m := by simp only [IntKind.bits, Int.toNat_natCast]; omega
  have e1 : (x : Int) * 2 ^ m = ((x * 2 ^ m : Nat) : Int) := by simp
  rw [e0, e1, wu64_eq (by omega) (by omega)]

section
variable {F : PH} {v : Array Value} {t : Tr} {C : Sl} {n k : Nat}
theorem side_ref (ha : DV F v (dia t)) (ht : t.ok) (hf : (subs t).length ≤ 4096) (hC : RdS F C 1 (cvL n (subs t) k)) (hn : n ≤ 64) {u : Tr} (hu : inn (subs t) u) (hk : num (subs t) u < k + 2) (hb : below n u) {fr : Nat} (hfr : fr ≤ min n u.top)
    (hlt : cv n u * 2 ^ (min n u.top - fr) < 18446744073709551616) :
    Spec prog 89 #[.agg v, C.v, vi (num (subs t) u), vi n, vi fr] F fun r F' => r = .int .u64 ((cv n u * 2 ^ (min n u.top - fr) : Nat) : Int) ∧ F.le F' := by
  obtain ⟨s, rfl, hr⟩ := ha
  have hr' : RdS F s 3 (bflat (brs (subs t))) := hr
  have hlen := hr'.blen
  rw [brs_length] at hlen
  have hCl : C.len = k := by have := hC.len; simp [cvL] at this; omega
  refine c89 ?_
  unfold b89
  intro b5 hb5
  refine atI ?_
  have l5 := le_set_fresh (.cells #[s.v, vi (dia t).2] 28) hb5
  have q5 := set_eq F b5 (.cells #[s.v, vi (dia t).2] 28)
  generalize F.set b5 (.cells #[s.v, vi (dia t).2] 28) = F5 at *
  refine ⟨fun h => ?_, fun h => ?_⟩
  · cases u with
    | node w l r => have := num_ge (S := subs t) (t := node w l r) rfl; omega
    | leaf b =>
      have e0 : min n (leaf b).top = n := by simp only [top]; omega
      rw [e0] at hfr hlt ⊢
      have hw : IntKind.i64.wrap ((n : Int) - (fr : Int)) = ((n - fr : Nat) : Int) := by rw [w64_eq (by omega) (by omega)]; omega
      have hwu : IntKind.u64.wrap ((n - fr : Nat) : Int) = ((n - fr : Nat) : Int) := wu64_eq (by omega) (by omega)
      have hnum : IntKind.u64.wrap ((num (subs t) (leaf b) : Nat) : Int) = ((cv n (leaf b) : Nat) : Int) := by cases b <;> simp [num, cv] <;> rfl
      rw [hw, hwu, hnum]
      exact ⟨by omega, by rw [shl64 (by omega) hlt], l5⟩
  · cases u with
    | leaf b => have := num_leaf_le (subs t) b; omega
    | node w l r =>
      have hT := subs_cl ht
      obtain ⟨o1, _⟩ := hT.inn_ok hu
      obtain ⟨b0, _, _⟩ := hb
      have e0 : min n (node w l r).top = w := by simp only [top]; omega
      rw [e0] at hfr hlt ⊢
      have hg := num_ge (S := subs t) (t := node w l r) rfl
      have hnl := num_le hu
      have hw := w64m2 (n := num (subs t) (node w l r)) (by omega) hg
      obtain ⟨p, hp, _, hc, _⟩ := rdb (hr'.le l5) (brs_get (num_get (inn_mem hu rfl) rfl))
      obtain ⟨b, o, g1, g2⟩ := (hC.le l5).cells (by omega)
      have hcell := g2 (num (subs t) (node w l r) - 2) (by simp [cvL]; omega)
      have hget : (cvL n (subs t) k)[num (subs t) (node w l r) - 2]'(by simp [cvL]; omega) = Value.int .u64 (cv n (node w l r) : Int) := by
        simp only [cvL, List.getElem_map, List.getElem_range]
        rw [show num (subs t) (node w l r) - 2 + 2 = num (subs t) (node w l r) by omega, tr_num hT hu]
      rw [hget] at hcell
      have hw2 : IntKind.i64.wrap ((w : Int) - (fr : Int)) = ((w - fr : Nat) : Int) := by rw [w64_eq (by omega) (by omega)]; omega
      have hwu : IntKind.u64.wrap ((w - fr : Nat) : Int) = ((w - fr : Nat) : Int) := wu64_eq (by omega) (by omega)
      rw [hw]
      refine ⟨_, g1, by omega, by omega, (cv n (node w l r) : Int), by simpa using hcell, s, by rw [cell_eq q5]; rfl, p, hp, by omega, by omega, (w : Int), by simpa [br] using hc, ?_⟩
      rw [hw2, hwu]
      exact ⟨by omega, by rw [shl64 (by omega) hlt], l5⟩
end
theorem nat_pow64 {F : PH} {b : Nat} (q : F b = some (.cells #[Value.int .u32 0, Value.int .u32 0, Value.int .u32 1] 75)) : NV F ⟨some ⟨b, 0, none⟩, 3, 3⟩ 18446744073709551616 := by
  have e : lm 18446744073709551616 = [0, 0, 1] := by
    have := lm_lv [0, 0, 1] (by simp) (by simp)
    have e2 : lv [0, 0, 1] = 18446744073709551616 := by decide
    rwa [e2] at this
  unfold NV
  rw [e]
  exact RdS.new q rfl rfl (Nat.le_refl _)

section
variable {F : PH} {v : Array Value} {a : Dia}
theorem count_ref (fa : Few a) (ha : DV F v a) (n : Int) : Spec prog 50 #[.agg v, vi n] F fun r F' => ∃ s, r = .tuple #[s.v, vi (countD a n).2] ∧ NV F' s (countD a n).1 ∧ F.le F' := by
  have ha' := ha
  obtain ⟨s, rfl, hr⟩ := ha
  refine c50 ?_
  unfold b50
  intro b2 hb2
  refine atI ?_
  have l2 := le_set_fresh (.cells #[s.v, vi a.2] 28) hb2
  have q2 := set_eq F b2 (.cells #[s.v, vi a.2] 28)
  generalize F.set b2 (.cells #[s.v, vi a.2] 28) = F2 at *
  refine ⟨_, rfl, row_whole q2, ?_⟩
  refine (check_ref (ha'.le l2) (by have : a.1.length ≤ 40 := fa; omega)).mono ?_
  rintro _ F4 ⟨rfl, lx⟩
  replace q2 := lx _ _ q2
  have l4 := l2.trans lx
  clear lx
  have err : ∀ {F' : PH} {e : Int}, countD a n = (0, e) → F.le F' → ∃ s, Value.tuple #[Sl.v Sl.nil, vi e] = .tuple #[s.v, vi (countD a n).2] ∧ NV F' s (countD a n).1 ∧ F.le F' := fun {F' e} h hl => ⟨Sl.nil, by rw [h], by rw [h]; exact NV.nil _, hl⟩
  refine ⟨_, rfl, fun h => err (by unfold countD; rw [if_pos h]) l4, fun h => ?_⟩
  have h0 : chk a = 0 := by omega
  refine ⟨fun hb => err (by unfold countD; rw [if_neg h, if_pos (.inl hb)]) l4, fun hb => ⟨fun hb2 => err (by unfold countD; rw [if_neg h, if_pos (.inr hb2)]) l4, fun hb2 => ?_⟩⟩
  obtain ⟨ka, ea, la⟩ := chk0 h0
  have hT := subs_cl ka
  have hr' : RdS F s 3 (bflat (brs (subs (tre a)))) := by rw [ea] at hr; exact hr
  have hlen := hr'.blen
  rw [brs_length] at hlen
  have hsl := few_subs fa h0
  have e2 : a.2 = (num (subs (tre a)) (tre a) : Int) := by conv => lhs; rw [ea]
                                                           rfl
  obtain ⟨N, rfl⟩ := Int.eq_ofNat_of_zero_le (by omega : 0 ≤ n)
  have hN : N ≤ 64 := by omega
  have cs : ∀ {G : PH}, F4.le G → G.cell (Addr.mk b2 0 none) = some s.v := fun h => by rw [cell_eq (h _ _ q2)]; rfl
  have cr : ∀ {G : PH}, F4.le G → G.cell (Addr.mk b2 1 none) = some (vi (num (subs (tre a)) (tre a))) := fun h => by rw [cell_eq (h _ _ q2), ← e2]; rfl
  have da : ∀ {G : PH}, F4.le G → DV G #[s.v, vi a.2] (dia (tre a)) := fun h => by rw [← ea]; exact ha'.le (l4.trans h)
  refine ⟨fun m i F' => ∃ k : Nat, i = k ∧ k ≤ (subs (tre a)).length ∧ m = (subs (tre a)).length - k ∧ F' = F4 ∧ ∀ j x, j < k → (subs (tre a))[j]? = some x → x.top < N, (subs (tre a)).length, ⟨0, rfl, by omega, rfl, rfl, fun j x hj => by omega⟩, ?_⟩
  rintro m i F5 ⟨k, rfl, hk, rfl, rfl, hall⟩
  have r4 := PH.le_rfl (F := F5)
  unfold b50L2
  refine ⟨s, cs r4, fun hlt => ?_, fun hge => ?_⟩
  · have hkT : k < (subs (tre a)).length := by omega
    obtain ⟨_, vv, lo', hi', hget, _, _, hok, _⟩ := cl_get hT k hkT
    obtain ⟨p, hp, _, hc, _⟩ := rdb (hr'.le l4) (brs_get hget)
    refine ⟨s, cs r4, p, hp, by omega, hlt, (vv : Int), by simpa [br] using hc, fun hbad => err ?_ l4, fun hgood => ?_⟩
    · unfold countD
      rw [if_neg h, if_neg (by omega), if_neg]
      intro hbel
      have := (below_subs hbel _ (List.mem_of_getElem? hget)).2
      simp only [Tr.top, Int.toNat_natCast] at this
      omega
    · refine ⟨(subs (tre a)).length - (k + 1), by omega, k + 1, w64s (by omega), by omega, rfl, rfl, fun j x hj hx => ?_⟩
      by_cases hjk : j < k
      · exact hall j x hjk hx
      · obtain rfl : j = k := by omega
        rw [hget] at hx
        obtain rfl := Option.some.inj hx
        simp only [Tr.top]
        omega
  obtain rfl : k = (subs (tre a)).length := by omega
  have hbel : below N (tre a) := below_of hT (fun x hx => by
    obtain ⟨j, hj, he⟩ := List.mem_iff_getElem.1 hx
    exact hall j x hj (by rw [List.getElem?_eq_getElem hj, he])) _ (subs_inn ka)
  have hcount : countD a (N : Int) = (countT N (tre a), 0) := by
    unfold countD
    rw [if_neg h, if_neg (by omega), if_pos (by simpa using hbel)]
    simp
  rw [hcount]
  clear hall hge hk err
  have fin : ∀ {F' : PH} {s' : Sl}, NV F' s' (countT N (tre a)) → F.le F' → ∃ s, Value.tuple #[s'.v, vi 0] = .tuple #[s.v, vi ((countT N (tre a), (0 : Int)) : Nat × Int).2] ∧ NV F' s ((countT N (tre a), (0 : Int)) : Nat × Int).1 ∧ F.le F' := fun {F' s'} h1 h2 => ⟨s', rfl, h1, h2⟩
  unfold b50j1
  refine ⟨_, cr r4, ?_⟩
  have z1 : ((num (subs (tre a)) (tre a) : Nat) : Int) = 1 ↔ tre a = leaf true := by
    constructor
    · intro e
      exact num_inj (S := subs (tre a)) (subs_inn ka) (inn_leaf _ _) (by rw [num_leaf]; simp; omega)
    · intro e; rw [e, num_leaf]; rfl
  -- what is not the whole of 64 conditions
  have go : ∀ y : Bool, (y = true → tre a = leaf true ∧ N = 64) → (y = false → ¬ (tre a = leaf true ∧ N = 64)) → b50j2 (N : Int) b2 y (fun r F' => ∃ s, r = .tuple #[s.v, vi ((countT N (tre a), (0 : Int)) : Nat × Int).2] ∧ NV F' s ((countT N (tre a), (0 : Int)) : Nat × Int).1 ∧ F.le F') F5 := by
    intro y hy1 hy2
    unfold b50j2
    refine ⟨fun hy => ?_, fun hy => ?_⟩
    · obtain ⟨e1, rfl⟩ := hy1 hy
      intro b44 hb44
      refine atI ?_
      refine fin ?_ (l4.trans (le_set_fresh _ hb44))
      have e : countT 64 (tre a) = 18446744073709551616 := by rw [e1]; decide
      rw [e]
      exact nat_pow64 (set_eq _ _ _)
    · have hno := hy2 hy
      refine ⟨_, cr r4, fun hlt => ?_, fun hge => ?_⟩
      · have hl := num_lt2 (S := subs (tre a)) (t := tre a) (by omega)
        have hleaf : ∃ b, tre a = leaf b := by
          cases ht : tre a with
          | leaf b => exact ⟨b, rfl⟩
          | node _ _ _ => rw [ht] at hl; cases hl
        obtain ⟨b, hb⟩ := hleaf
        have hct : countT N (tre a) = cv N (tre a) * 2 ^ N := by
          unfold countT
          congr 2
          rw [hb]
          simp only [top]
          omega
        have hcv : IntKind.u64.wrap ((num (subs (tre a)) (tre a) : Nat) : Int) = ((cv N (tre a) : Nat) : Int) := by rw [hb]; cases b <;> simp [num, cv] <;> rfl
        have hwN : IntKind.u64.wrap (N : Int) = (N : Int) := wu64_eq (by omega) (by omega)
        have hsm : cv N (tre a) * 2 ^ N < 18446744073709551616 := by
          rw [hb]
          cases b with
          | false => simp [cv]
          | true =>
            have : N ≤ 63 := by
              have : N ≠ 64 := fun e => hno ⟨hb, e⟩
              omega
            have := Nat.pow_le_pow_right (n := 2) (by decide) this
            simp only [cv, if_true, Nat.one_mul]
            omega
        refine ⟨_, cr r4, ?_⟩
        rw [hwN, hcv, shl64 hN hsm]
        refine ⟨by omega, (nat_ref hsm).mono ?_⟩
        rintro _ F6 ⟨s', rfl, hs', l6⟩
        exact ⟨_, rfl, fin (by rw [hct]; exact hs') (l4.trans l6)⟩
      · intro b55 hb55
        refine atI ?_
        have l55 := le_set_fresh (.cells #[] 38) hb55
        have q55 := set_eq F5 b55 (.cells #[] 38)
        generalize F5.set b55 (.cells #[] 38) = F6 at *
        have hnn : ∃ w l r, tre a = node w l r := by
          cases ht : tre a with
          | leaf b => rw [ht] at hge; have := num_leaf_le (subs (leaf b)) b; omega
          | node w l r => exact ⟨w, l, r, rfl⟩
        have hnt : tre a ≠ leaf true := by obtain ⟨w, l, r, e⟩ := hnn; rw [e]; simp
        refine ⟨fun m C i F' => ∃ k : Nat, i = k ∧ k ≤ (subs (tre a)).length ∧ m = (subs (tre a)).length - k ∧ F5.le F' ∧ OwnS F' 38 1 C (cvL N (subs (tre a)) k) ∧ ∀ x, C.base = some x → F5 x.block = none, (subs (tre a)).length,
          ⟨0, rfl, by omega, rfl, l55, .inr ⟨b55, #[], rfl, q55, rfl, Nat.le_refl _, rfl, rfl⟩, fun x hx => by cases hx; exact hb55⟩, ?_⟩
        rintro m C i F7 ⟨k, rfl, hk, rfl, l7, ho, hn⟩
        unfold b50L1
        refine ⟨s, cs l7, fun hlt => ?_, fun hge => ?_⟩
        · have hkT : k < (subs (tre a)).length := by omega
          obtain ⟨hck, vv, lo', hi', hget, hlo, hhi, hok, _⟩ := cl_get hT k hkT
          have hlo2 := num_le hlo
          have hhi2 := num_le hhi
          rw [← num_take hlo, List.length_take] at hlo2
          rw [← num_take hhi, List.length_take] at hhi2
          have inl : inn (subs (tre a)) lo' := by rw [← List.take_append_drop k (subs (tre a))]; exact inn_append hlo
          have inh : inn (subs (tre a)) hi' := by rw [← List.take_append_drop k (subs (tre a))]; exact inn_append hhi
          have hk2 : tr (subs (tre a)) (k + 2) = node vv lo' hi' := by
            unfold tr
            rw [if_neg (by omega), if_neg (by omega), Nat.add_sub_cancel, List.getD_eq_getElem?_getD, hget]
            rfl
          obtain ⟨bn0, bn1, bn2⟩ : below N (node vv lo' hi') := (below_subs hbel _ (List.mem_of_getElem? hget)).1
          have hlt64 := cv_lt hN (node vv lo' hi') hok ⟨bn0, bn1, bn2⟩ (by simp)
          have hpw : (2 : Nat) ^ (N - min N (node vv lo' hi').top) ≤ 2 ^ 64 := Nat.pow_le_pow_right (by decide) (by omega)
          simp only [cv] at hlt64
          obtain ⟨o1, o2, o3, o4, o5, o6⟩ := hok
          obtain ⟨p, hp, hrow, _⟩ := rdb (hr'.le (l4.trans l7)) (brs_get hget)
          refine ⟨s, cs l7, p, hp, by omega, hlt, barr (br (subs (tre a)) (node vv lo' hi')), rfl, by simpa using hrow, ?_⟩
          intro b10 hb10
          refine atI ?_
          refine stW (set_eq _ _ _) rfl rfl (st_barr _) ?_
          rw [set_twice]
          have lx := le_set_fresh (.cells (barr (br (subs (tre a)) (node vv lo' hi'))) 72) hb10
          have q10 := set_eq F7 b10 (.cells (barr (br (subs (tre a)) (node vv lo' hi'))) 72)
          have l8 := l7.trans lx
          have ho8 := ho.upto lx
          clear lx
          generalize F7.set b10 (.cells (barr (br (subs (tre a)) (node vv lo' hi'))) 72) = F8 at *
          have c0 : ∀ {G : PH}, F8.le G → G.cell (Addr.mk b10 0 none) = some (vi vv) := fun h => by rw [cell_eq (h _ _ q10)]; rfl
          have c1 : ∀ {G : PH}, F8.le G → G.cell (Addr.mk b10 1 none) = some (vi (num (subs (tre a)) lo')) := fun h => by rw [cell_eq (h _ _ q10)]; rfl
          have c2 : ∀ {G : PH}, F8.le G → G.cell (Addr.mk b10 2 none) = some (vi (num (subs (tre a)) hi')) := fun h => by rw [cell_eq (h _ _ q10)]; rfl
          have hw1 : IntKind.i64.wrap ((vv : Int) + 1) = ((vv + 1 : Nat) : Int) := w64s (by omega)
          have r8 := PH.le_rfl (F := F8)
          refine ⟨_, rfl, row_whole (l8 _ _ q2), _, c1 r8, (vv : Int), c0 r8, _, rfl, row_whole (l8 _ _ q2), _, c2 r8, (vv : Int), c0 r8, ?_⟩
          rw [hw1]
          refine (side_ref (da l8) ka (by omega) ho8.rd hN inl (by omega) bn1 (fr := vv + 1) (by omega) (by omega)).mono ?_
          rintro _ F9 ⟨rfl, l9⟩
          refine ⟨_, rfl, c0 l9, c2 l9, row_whole ((l8.trans l9) _ _ q2), c0 l9, ?_⟩
          refine (side_ref (da (l8.trans l9)) ka (by omega) (ho8.rd.le l9) hN inh (by omega) bn2 (fr := vv + 1) (by omega) (by omega)).mono ?_
          rintro _ F10 ⟨rfl, l10⟩
          have l9' := l9.trans l10
          refine ⟨_, rfl, c0 l9', c0 l9', ?_⟩
          have hsum : IntKind.u64.wrap (((cv N lo' * 2 ^ (min N lo'.top - (vv + 1)) : Nat) : Int) + ((cv N hi' * 2 ^ (min N hi'.top - (vv + 1)) : Nat) : Int)) = ((cv N (node vv lo' hi') : Nat) : Int) := by
            rw [show (((cv N lo' * 2 ^ (min N lo'.top - (vv + 1)) : Nat) : Int) + ((cv N hi' * 2 ^ (min N hi'.top - (vv + 1)) : Nat) : Int)) = ((cv N (node vv lo' hi') : Nat) : Int) by simp only [cv]; omega]
            exact wu64_eq (by omega) (by simp only [cv]; omega)
          rw [hsum]
          intro b88 hb88
          refine atI ?_
          have l88 := le_set_fresh (.cells #[Value.int .u64 ((cv N (node vv lo' hi') : Nat) : Int)] 38) hb88
          have q88 := set_eq F10 b88 (.cells #[Value.int .u64 ((cv N (node vv lo' hi') : Nat) : Int)] 38)
          have ho88 := (ho8.upto l9').upto l88
          have hq10 : (F10.set b88 (.cells #[Value.int .u64 ((cv N (node vv lo' hi') : Nat) : Int)] 38)) b10 = _ := l88 _ _ (l9' _ _ q10)
          have hn10 : ∀ x, C.base = some x → x.block ≠ b10 := fun x hx e => by
            obtain ⟨cur, hcur⟩ := ho.elem hx
            rw [e, hb10] at hcur
            cases hcur
          have l11 := (l8.trans l9').trans l88
          generalize F10.set b88 (.cells #[Value.int .u64 ((cv N (node vv lo' hi') : Nat) : Int)] 38) = F11 at *
          have hCl : C.len = k := by have := ho.rd.len; simp [cvL] at this; omega
          refine own_app (F0 := F5) (bytes := 8) (z := .int .u64 0) (news := [Value.int .u64 ((cv N (node vv lo' hi') : Nat) : Int)]) underlying104 sz38 zr38 rfl (by omega) l11 ho88 hn (RdS.new q88 rfl rfl (Nat.le_refl _)) (by simp [storable]) (by simp only; omega) (by simp only; omega) ?_
          intro C' F12 h1 h2 _ h4 h5 _
          have q12 : F12 b10 = _ := h5 _ _ hq10 (fun ⟨x, hx, e⟩ => hn10 x hx e)
          refine ⟨C', rfl, by rw [cell_eq q12]; rfl, by rw [cell_eq q12]; rfl, (subs (tre a)).length - (k + 1), by omega, k + 1, w64s (by omega), by omega, rfl, h1, ?_, h4⟩
          have e : cvL N (subs (tre a)) (k + 1) = cvL N (subs (tre a)) k ++ [Value.int .u64 ((cv N (node vv lo' hi') : Nat) : Int)] := by
            unfold cvL
            rw [List.range_succ, List.map_append]
            simp only [List.map_cons, List.map_nil]
            rw [hk2]
          rw [e]
          exact h2
        · obtain rfl : k = (subs (tre a)).length := by omega
          unfold b50j3
          have hnl := num_le (subs_inn ka)
          have hlt64 := cv_lt hN (tre a) ka hbel hnt
          have hct : countT N (tre a) = cv N (tre a) * 2 ^ (min N (tre a).top - 0) := rfl
          have hsm : cv N (tre a) * 2 ^ (min N (tre a).top - 0) < 18446744073709551616 := by
            calc cv N (tre a) * 2 ^ (min N (tre a).top - 0) < 2 ^ (N - min N (tre a).top) * 2 ^ (min N (tre a).top - 0) := Nat.mul_lt_mul_of_pos_right hlt64 (Nat.pow_pos (by decide))
              _ = 2 ^ N := by rw [← Nat.pow_add]; congr 1; omega
              _ ≤ 2 ^ 64 := Nat.pow_le_pow_right (by decide) hN
          refine ⟨_, rfl, row_whole (l7 _ _ q2), _, cr l7, ?_⟩
          refine (side_ref (da l7) ka (by omega) ho.rd hN (subs_inn ka) (by omega) hbel (fr := 0) (by omega) hsm).mono ?_
          rintro _ F8 ⟨rfl, l8⟩
          refine ⟨_, rfl, (nat_ref hsm).mono ?_⟩
          rintro _ F9 ⟨s', rfl, hs', l9⟩
          exact ⟨_, rfl, fin (by rw [hct]; exact hs') (l4.trans (l7.trans (l8.trans l9)))⟩
  refine ⟨fun he => go _ (fun hy => ⟨z1.1 he, by have := of_decide_eq_true hy; omega⟩) (fun hy hh => by have := of_decide_eq_false hy; omega), fun he => go false (fun hy => by cases hy) (fun _ hh => he (z1.2 hh.1))⟩
end
end Go.Proofs.Ytafojmoeaneedaa
