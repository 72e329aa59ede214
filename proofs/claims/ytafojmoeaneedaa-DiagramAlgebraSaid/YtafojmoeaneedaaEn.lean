/-
  Natural numbers as limbs: trim, Valid, Of, Add, Compare.
-/
import Derived.Test.YtafojmoeaneedaaEm
import Derived.Test.YtafojmoeaneedaaGd
namespace Go.Proofs.Ytafojmoeaneedaa
open Go Go.Proofs.Try
set_option maxRecDepth 10000

def lv : List Nat → Nat
  | [] => 0
  | x :: r => x + 4294967296 * lv r
/-- The limbs of a number. -/
def lm (n : Nat) : List Nat := if h : n = 0 then [] else n % 4294967296 :: lm (n / 4294967296)
termination_by n
decreasing_by exact Nat.div_lt_self (by omega) (by decide)
theorem lm_zero : lm 0 = [] := by unfold lm; simp
theorem lm_pos {n : Nat} (h : n ≠ 0) : lm n = n % 4294967296 :: lm (n / 4294967296) := by
  conv => lhs; unfold lm
  rw [dif_neg h]
theorem lm_lt : ∀ (n x : Nat), x ∈ lm n → x < 4294967296 := by
  intro n
  induction n using Nat.strongRecOn with
  | _ n ih =>
    intro x hx
    by_cases h : n = 0
    · subst h; rw [lm_zero] at hx; cases hx
    · rw [lm_pos h] at hx
      rcases List.mem_cons.1 hx with rfl | hx
      · exact Nat.mod_lt _ (by decide)
      · exact ih _ (Nat.div_lt_self (by omega) (by decide)) x hx
theorem lv_lm : ∀ n, lv (lm n) = n := by
  intro n
  induction n using Nat.strongRecOn with
  | _ n ih =>
    by_cases h : n = 0
    · subst h; rw [lm_zero]; rfl
    · rw [lm_pos h]
      simp only [lv]
      rw [ih _ (Nat.div_lt_self (by omega) (by decide))]
      exact Nat.mod_add_div n 4294967296
/-- A list of limbs whose last one is not 0. -/
theorem lm_lv : ∀ (l : List Nat), (∀ x ∈ l, x < 4294967296) → (∀ h : l ≠ [], l.getLast h ≠ 0) → lm (lv l) = l
  | [], _, _ => lm_zero
  | [x], h1, h2 => by
    have hx := h1 x (by simp)
    have h0 := h2 (by simp)
    simp only [List.getLast_singleton] at h0
    have e : lv [x] = x := by simp [lv]
    rw [e, lm_pos h0, Nat.mod_eq_of_lt hx, Nat.div_eq_of_lt hx, lm_zero]
  | x :: y :: r, h1, h2 => by
    have hx := h1 x (by simp)
    have ih := lm_lv (y :: r) (fun z hz => h1 z (by simp [List.mem_cons.1 hz])) (fun _ => by simpa using h2 (by simp))
    have hne : lv (y :: r) ≠ 0 := fun e => by rw [e, lm_zero] at ih; cases ih
    have e : lv (x :: y :: r) = x + 4294967296 * lv (y :: r) := rfl
    rw [e, lm_pos (by omega), Nat.add_mul_mod_self_left, Nat.mod_eq_of_lt hx, Nat.add_mul_div_left _ _ (by decide), Nat.div_eq_of_lt hx, Nat.zero_add, ih]
theorem lv_append (l m : List Nat) : lv (l ++ m) = lv l + 4294967296 ^ l.length * lv m := by
  induction l with
  | nil => simp [lv]
  | cons x l ih => simp only [List.cons_append, lv, ih, List.length_cons, Nat.pow_succ, Nat.mul_add]; rw [Nat.mul_comm (4294967296 ^ l.length) 4294967296, Nat.mul_assoc]; omega
theorem lv_zeros : ∀ (l : List Nat), (∀ x ∈ l, x = 0) → lv l = 0
  | [], _ => rfl
  | x :: l, h => by simp only [lv]; rw [h x (by simp), lv_zeros l (fun y hy => h y (by simp [hy]))]
theorem lv_lt : ∀ (l : List Nat), (∀ x ∈ l, x < 4294967296) → lv l < 4294967296 ^ l.length
  | [], _ => by simp [lv]
  | x :: l, h => by
    have h1 := h x (by simp)
    have h2 := lv_lt l (fun y hy => h y (by simp [hy]))
    simp only [lv, List.length_cons, Nat.pow_succ]
    have : 4294967296 * lv l + 4294967296 ≤ 4294967296 * 4294967296 ^ l.length := by rw [← Nat.mul_succ]; exact Nat.mul_le_mul_left _ h2
    rw [Nat.mul_comm (4294967296 ^ l.length)]
    omega
theorem lm_last {n : Nat} (h : lm n ≠ []) : (lm n).getLast h ≠ 0 := by
  induction n using Nat.strongRecOn with
  | _ n ih =>
    by_cases h0 : n = 0
    · subst h0; rw [lm_zero] at h; exact absurd rfl h
    · have e := lm_pos h0
      by_cases hq : n / 4294967296 = 0
      · rw [hq, lm_zero] at e
        simp only [e, List.getLast_singleton]
        have := Nat.mod_add_div n 4294967296
        rw [hq] at this
        omega
      · have hd := Nat.div_lt_self (n := n) (k := 4294967296) (by omega) (by decide)
        have hne : lm (n / 4294967296) ≠ [] := by rw [lm_pos hq]; simp
        simp only [e]
        rw [List.getLast_cons hne]
        exact ih _ hd hne

abbrev u32s (l : List Nat) : List Value := l.map fun (x : Nat) => Value.int .u32 (x : Int)
theorem st_u32s (l : List Nat) : ∀ v ∈ u32s l, storable v := by
  intro v hv
  obtain ⟨x, _, rfl⟩ := List.mem_map.1 hv
  exact st_int
/-- A number in memory. -/
def NV (F : PH) (s : Sl) (n : Nat) : Prop := RdS F s 1 (u32s (lm n))
theorem NV.le {F G : PH} {s : Sl} {n : Nat} (h : NV F s n) (hl : F.le G) : NV G s n := RdS.le h hl
theorem RdS.ulen {F : PH} {s : Sl} {l : List Nat} (h : RdS F s 1 (u32s l)) : s.len = l.length := by have := h.len; simp at this; omega
theorem RdS.u32 {F : PH} {s : Sl} {l : List Nat} (h : RdS F s 1 (u32s l)) {i x : Nat} (hi : l[i]? = some x) : ∃ a, s.base = some a ∧ F.cell (a.add (Int.toNat (i : Int) * 1)) = some (.int .u32 (x : Int)) := by
  obtain ⟨hlt, hx⟩ := List.getElem?_eq_some_iff.1 hi
  subst hx
  have hl := h.ulen
  obtain ⟨b, o, h1, h2⟩ := h.cells (by omega)
  refine ⟨_, h1, ?_⟩
  have := h2 i (by simpa using hlt)
  simpa using this

section
variable {F : PH} {s : Sl} {l : List Nat}
theorem trim_spec (hr : RdS F s 1 (u32s l)) (hl : l.length ≤ 1024) (hb : ∀ x ∈ l, x < 4294967296) : Spec prog 77 #[s.v] F fun r F' => ∃ s', r = .tuple #[s'.v, vi 0] ∧ NV F' s' (lv l) ∧ F' = F := by
  have hlen := hr.ulen
  refine c77 ?_
  unfold b77
  refine ⟨fun m i F' => ∃ k : Nat, i = k ∧ k ≤ l.length ∧ m = k ∧ F' = F ∧ ∀ x ∈ l.drop k, x = 0, l.length, ⟨l.length, by rw [hlen], Nat.le_refl _, rfl, rfl, by simp⟩, ?_⟩
  rintro m i F' ⟨k, rfl, hk, hm, rfl, hz⟩
  have fin : (∀ h : l.take k ≠ [], (l.take k).getLast h ≠ 0) → b77j1 s k (fun r F'' => ∃ s', r = .tuple #[s'.v, vi 0] ∧ NV F'' s' (lv l) ∧ F'' = F') F' := fun hlast => by
    unfold b77j1
    refine ⟨fun h => by omega, fun _ => ⟨by omega, by omega, ?_, _, rfl, ?_, rfl⟩⟩
    · have := hr.cap; simp only [Int.toNat_natCast]; omega
    · have hcut := hr.cut (l := 0) (r := k) (m := s.cap) (by omega) (by omega) (by have := hr.cap; omega)
      have e : lv l = lv (l.take k) := by
        conv => lhs; rw [← List.take_append_drop k l]
        rw [lv_append, lv_zeros _ hz]; simp
      unfold NV
      rw [e, lm_lv _ (fun x hx => hb x (List.mem_of_mem_take hx)) hlast]
      simp only [Int.toNat_natCast]
      have e2 : ((u32s l).drop (0 * 1)).take ((k - 0) * 1) = u32s (l.take k) := by simp [u32s, List.map_take]
      rw [e2] at hcut
      exact hcut
  unfold b77L1
  refine ⟨fun h => ?_, fun h => ?_⟩
  · have hk1 : k - 1 < l.length := by omega
    have hw : IntKind.i64.wrap ((k : Int) - 1) = ((k - 1 : Nat) : Int) := by rw [w64_eq (by omega) (by omega)]; omega
    obtain ⟨a, ha, hc⟩ := hr.u32 (List.getElem?_eq_getElem hk1)
    rw [hw]
    refine ⟨a, ha, by omega, by omega, _, hc, fun h0 => ?_, fun h0 => ?_⟩
    · refine ⟨k - 1, by omega, k - 1, rfl, by omega, rfl, rfl, fun x hx => ?_⟩
      rw [List.drop_eq_getElem_cons hk1] at hx
      rcases List.mem_cons.1 hx with rfl | hx
      · omega
      · rw [show k - 1 + 1 = k by omega] at hx
        exact hz x hx
    · refine fin fun hne => ?_
      have e : (l.take k).getLast hne = l[k - 1] := by
        rw [List.getLast_eq_getElem]
        simp only [List.length_take, List.getElem_take]
        congr 1
        omega
      rw [e]
      omega
  · obtain rfl : k = 0 := by omega
    exact fin fun hne => absurd (by simp) hne
theorem valid_spec {n : Nat} (hr : NV F s n) (hl : (lm n).length ≤ 1000) : Spec prog 76 #[s.v] F fun r F' => r = .bool true ∧ F' = F := by
  have hlen := RdS.ulen hr
  refine c76 ?_
  unfold b76
  refine ⟨fun _ => ⟨fun _ => ⟨rfl, rfl⟩, fun h => ?_⟩, fun h => by omega⟩
  have hne : lm n ≠ [] := fun e => by rw [e] at hlen; simp at hlen; omega
  have hlast := lm_last hne
  rw [List.getLast_eq_getElem] at hlast
  have hk : (lm n).length - 1 < (lm n).length := by have := List.length_pos_iff.2 hne; omega
  have hw : IntKind.i64.wrap ((s.len : Int) - 1) = (((lm n).length - 1 : Nat) : Int) := by rw [hlen, w64_eq (by omega) (by omega)]; omega
  obtain ⟨a, ha, hc⟩ := RdS.u32 hr (List.getElem?_eq_getElem hk)
  rw [hw]
  refine ⟨a, ha, by omega, by omega, _, hc, ?_, rfl⟩
  rw [decide_eq_true]
  omega
theorem of_spec {n : Nat} (hn : n < 18446744073709551616) : Spec prog 35 #[.int .u64 (n : Int)] F fun r F' => ∃ s', r = s'.v ∧ NV F' s' n ∧ F.le F' := by
  refine c35 ?_
  unfold b35
  intro b11 hb11
  refine atI ?_
  have hd : Int.fdiv (n : Int) (2 ^ (min (Int.toNat (32 : Int)) (IntKind.u64).bits)) = ((n / 4294967296 : Nat) : Int) := fdiv_pow n 32
  have wu : ∀ m : Nat, IntKind.u32.wrap (m : Int) = ((m % 4294967296 : Nat) : Int) := fun m => by
    unfold IntKind.wrap
    simp only [IntKind.bits, IntKind.signed, Bool.false_and, Bool.false_eq_true, if_false]
    omega
  rw [hd, wu, wu]
  have hle := le_set_fresh (.cells #[Value.int .u32 ((n % 4294967296 : Nat) : Int), Value.int .u32 ((n / 4294967296 % 4294967296 : Nat) : Int)] 75) hb11
  have h11 := set_eq F b11 (.cells #[Value.int .u32 ((n % 4294967296 : Nat) : Int), Value.int .u32 ((n / 4294967296 % 4294967296 : Nat) : Int)] 75)
  generalize F.set b11 (.cells #[Value.int .u32 ((n % 4294967296 : Nat) : Int), Value.int .u32 ((n / 4294967296 % 4294967296 : Nat) : Int)] 75) = G at *
  refine (trim_spec (F := G) (l := [n % 4294967296, n / 4294967296 % 4294967296]) (RdS.new h11 rfl rfl (Nat.le_refl _)) (by simp) (fun x hx => ?_)).mono ?_
  · simp only [List.mem_cons, List.not_mem_nil, or_false] at hx
    rcases hx with rfl | rfl <;> exact Nat.mod_lt _ (by decide)
  rintro _ F' ⟨s', rfl, h, rfl⟩
  refine ⟨_, _, rfl, _, rfl, ?_, hle⟩
  have e : lv [n % 4294967296, n / 4294967296 % 4294967296] = n := by
    simp only [lv]
    have h1 := Nat.mod_add_div n 4294967296
    have h2 : n / 4294967296 % 4294967296 = n / 4294967296 := Nat.mod_eq_of_lt (Nat.div_lt_of_lt_mul hn)
    rw [h2]
    omega
  rw [e] at h
  exact h
end
end Go.Proofs.Ytafojmoeaneedaa
