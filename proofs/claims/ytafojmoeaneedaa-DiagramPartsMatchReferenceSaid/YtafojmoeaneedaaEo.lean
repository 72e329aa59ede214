/-
  Natural numbers as limbs: addition.
-/
import Derived.Test.YtafojmoeaneedaaEm
import Derived.Test.YtafojmoeaneedaaGd
namespace Go.Proofs.Ytafojmoeaneedaa
open Go Go.Proofs.Try
set_option maxRecDepth 10000

def lv : List Nat → Nat
  | [] => 0
  | x :: r => x + 4294967296 * lv r
/-- The limbs of a number. -/
def lm (n : Nat) : List Nat := if h : n = 0 then [] else n % 4294967296 :: lm (n / 4294967296)
termination_by n
decreasing_by exact Nat.div_lt_self (by omega) (by decide)
theorem lm_zero : lm 0 = [] := by unfold lm; simp
theorem lm_pos {n : Nat} (h : n ≠ 0) : lm n = n % 4294967296 :: lm (n / 4294967296) := by
  conv => lhs; unfold lm
  rw [dif_neg h]
theorem lm_lt : ∀ (n x : Nat), x ∈ lm n → x < 4294967296 := by
  intro n
  induction n using Nat.strongRecOn with
  | _ n ih =>
    intro x hx
    by_cases h : n = 0
    · subst h; rw [lm_zero] at hx; cases hx
    · rw [lm_pos h] at hx
      rcases List.mem_cons.1 hx with rfl | hx
      · exact Nat.mod_lt _ (by decide)
      · exact ih _ (Nat.div_lt_self (by omega) (by decide)) x hx
theorem lv_lm : ∀ n, lv (lm n) = n := by
  intro n
  induction n using Nat.strongRecOn with
  | _ n ih =>
    by_cases h : n = 0
    · subst h; rw [lm_zero]; rfl
    · rw [lm_pos h]
      simp only [lv]
      rw [ih _ (Nat.div_lt_self (by omega) (by decide))]
      exact Nat.mod_add_div n 4294967296
/-- A list of limbs whose last one is not 0. -/
theorem lm_lv : ∀ (l : List Nat), (∀ x ∈ l, x < 4294967296) → (∀ h : l ≠ [], l.getLast h ≠ 0) → lm (lv l) = l
  | [], _, _ => lm_zero
  | [x], h1, h2 => by
    have hx := h1 x (by simp)
    have h0 := h2 (by simp)
    simp only [List.getLast_singleton] at h0
    have e : lv [x] = x := by simp [lv]
    rw [e, lm_pos h0, Nat.mod_eq_of_lt hx, Nat.div_eq_of_lt hx, lm_zero]
  | x :: y :: r, h1, h2 => by
    have hx := h1 x (by simp)
    have ih := lm_lv (y :: r) (fun z hz => h1 z (by simp [List.mem_cons.1 hz])) (fun _ => by simpa using h2 (by simp))
    have hne : lv (y :: r) ≠ 0 := fun e => by rw [e, lm_zero] at ih; cases ih
    have e : lv (x :: y :: r) = x + 4294967296 * lv (y :: r) := rfl
    rw [e, lm_pos (by omega), Nat.add_mul_mod_self_left, Nat.mod_eq_of_lt hx, Nat.add_mul_div_left _ _ (by decide), Nat.div_eq_of_lt hx, Nat.zero_add, ih]
theorem lv_append (l m : List Nat) : lv (l ++ m) = lv l + 4294967296 ^ l.length * lv m := by
  induction l with
  | nil => simp [lv]
  | cons x l ih => simp only [List.cons_append, lv, ih, List.length_cons, Nat.pow_succ, Nat.mul_add]; rw [Nat.mul_comm (4294967296 ^ l.length) 4294967296, Nat.mul_assoc]; omega
theorem lv_zeros : ∀ (l : List Nat), (∀ x ∈ l, x = 0) → lv l = 0
  | [], _ => rfl
  | x :: l, h => by simp only [lv]; rw [h x (by simp), lv_zeros l (fun y hy => h y (by simp [hy]))]
theorem lv_lt : ∀ (l : List Nat), (∀ x ∈ l, x < 4294967296) → lv l < 4294967296 ^ l.length
  | [], _ => by simp [lv]
  | x :: l, h => by
    have h1 := h x (by simp)
    have h2 := lv_lt l (fun y hy => h y (by simp [hy]))
    simp only [lv, List.length_cons, Nat.pow_succ]
    have : 4294967296 * lv l + 4294967296 ≤ 4294967296 * 4294967296 ^ l.length := by rw [← Nat.mul_succ]; exact Nat.mul_le_mul_left _ h2
    rw [Nat.mul_comm (4294967296 ^ l.length)]
    omega
theorem lm_last {n : Nat} (h : lm n ≠ []) : (lm n).getLast h ≠ 0 := by
  induction n using Nat.strongRecOn with
  | _ n ih =>
    by_cases h0 : n = 0
    · subst h0; rw [lm_zero] at h; exact absurd rfl h
    · have e := lm_pos h0
      by_cases hq : n / 4294967296 = 0
      · rw [hq, lm_zero] at e
        simp only [e, List.getLast_singleton]
        have := Nat.mod_add_div n 4294967296
        rw [hq] at this
        omega
      · have hd := Nat.div_lt_self (n := n) (k := 4294967296) (by omega) (by decide)
        have hne : lm (n / 4294967296) ≠ [] := by rw [lm_pos hq]; simp
        simp only [e]
        rw [List.getLast_cons hne]
        exact ih _ hd hne

abbrev u32s (l : List Nat) : List Value := l.map fun (x : Nat) => Value.int .u32 (x : Int)
theorem st_u32s (l : List Nat) : ∀ v ∈ u32s l, storable v := by
  intro v hv
  obtain ⟨x, _, rfl⟩ := List.mem_map.1 hv
  exact st_int
/-- A number in memory. -/
def NV (F : PH) (s : Sl) (n : Nat) : Prop := RdS F s 1 (u32s (lm n))
theorem NV.le {F G : PH} {s : Sl} {n : Nat} (h : NV F s n) (hl : F.le G) : NV G s n := RdS.le h hl
theorem RdS.ulen {F : PH} {s : Sl} {l : List Nat} (h : RdS F s 1 (u32s l)) : s.len = l.length := by have := h.len; simp at this; omega
theorem RdS.u32 {F : PH} {s : Sl} {l : List Nat} (h : RdS F s 1 (u32s l)) {i x : Nat} (hi : l[i]? = some x) : ∃ a, s.base = some a ∧ F.cell (a.add (Int.toNat (i : Int) * 1)) = some (.int .u32 (x : Int)) := by
  obtain ⟨hlt, hx⟩ := List.getElem?_eq_some_iff.1 hi
  subst hx
  have hl := h.ulen
  obtain ⟨b, o, h1, h2⟩ := h.cells (by omega)
  refine ⟨_, h1, ?_⟩
  have := h2 i (by simpa using hlt)
  simpa using this

section
variable {F : PH} {s : Sl} {l : List Nat}
theorem trim_spec (hr : RdS F s 1 (u32s l)) (hl : l.length ≤ 1024) (hb : ∀ x ∈ l, x < 4294967296) : Spec prog 77 #[s.v] F fun r F' => ∃ s', r = .tuple #[s'.v, vi 0] ∧ NV F' s' (lv l) ∧ F' = F := by
  have hlen := hr.ulen
  refine c77 ?_
  unfold b77
  refine ⟨fun m i F' => ∃ k : Nat, i = k ∧ k ≤ l.length ∧ m = k ∧ F' = F ∧ ∀ x ∈ l.drop k, x = 0, l.length, ⟨l.length, by rw [hlen], Nat.le_refl _, rfl, rfl, by simp⟩, ?_⟩
  rintro m i F' ⟨k, rfl, hk, hm, rfl, hz⟩
  have fin : (∀ h : l.take k ≠ [], (l.take k).getLast h ≠ 0) → b77j1 s k (fun r F'' => ∃ s', r = .tuple #[s'.v, vi 0] ∧ NV F'' s' (lv l) ∧ F'' = F') F' := fun hlast => by
    unfold b77j1
    refine ⟨fun h => by omega, fun _ => ⟨by omega, by omega, ?_, _, rfl, ?_, rfl⟩⟩
    · have := hr.cap; simp only [Int.toNat_natCast]; omega
    · have hcut := hr.cut (l := 0) (r := k) (m := s.cap) (by omega) (by omega) (by have := hr.cap; omega)
      have e : lv l = lv (l.take k) := by
        conv => lhs; rw [← List.take_append_drop k l]
        rw [lv_append, lv_zeros _ hz]; simp
      unfold NV
      rw [e, lm_lv _ (fun x hx => hb x (List.mem_of_mem_take hx)) hlast]
      simp only [Int.toNat_natCast]
      have e2 : ((u32s l).drop (0 * 1)).take ((k - 0) * 1) = u32s (l.take k) := by simp [u32s, List.map_take]
      rw [e2] at hcut
      exact hcut
  unfold b77L1
  refine ⟨fun h => ?_, fun h => ?_⟩
  · have hk1 : k - 1 < l.length := by omega
    have hw : IntKind.i64.wrap ((k : Int) - 1) = ((k - 1 : Nat) : Int) := by rw [w64_eq (by omega) (by omega)]; omega
    obtain ⟨a, ha, hc⟩ := hr.u32 (List.getElem?_eq_getElem hk1)
    rw [hw]
    refine ⟨a, ha, by omega, by omega, _, hc, fun h0 => ?_, fun h0 => ?_⟩
    · refine ⟨k - 1, by omega, k - 1, rfl, by omega, rfl, rfl, fun x hx => ?_⟩
      rw [List.drop_eq_getElem_cons hk1] at hx
      rcases List.mem_cons.1 hx with rfl | hx
      · omega
      · rw [show k - 1 + 1 = k by omega] at hx
        exact hz x hx
    · refine fin fun hne => ?_
      have e : (l.take k).getLast hne = l[k - 1] := by
        rw [List.getLast_eq_getElem]
        simp only [List.length_take, List.getElem_take]
        congr 1
        omega
      rw [e]
      omega
  · obtain rfl : k = 0 := by omega
    exact fin fun hne => absurd (by simp) hne
theorem valid_spec {n : Nat} (hr : NV F s n) (hl : (lm n).length ≤ 1000) : Spec prog 76 #[s.v] F fun r F' => r = .bool true ∧ F' = F := by
  have hlen := RdS.ulen hr
  refine c76 ?_
  unfold b76
  refine ⟨fun _ => ⟨fun _ => ⟨rfl, rfl⟩, fun h => ?_⟩, fun h => by omega⟩
  have hne : lm n ≠ [] := fun e => by rw [e] at hlen; simp at hlen; omega
  have hlast := lm_last hne
  rw [List.getLast_eq_getElem] at hlast
  have hk : (lm n).length - 1 < (lm n).length := by have := List.length_pos_iff.2 hne; omega
  have hw : IntKind.i64.wrap ((s.len : Int) - 1) = (((lm n).length - 1 : Nat) : Int) := by rw [hlen, w64_eq (by omega) (by omega)]; omega
  obtain ⟨a, ha, hc⟩ := RdS.u32 hr (List.getElem?_eq_getElem hk)
  rw [hw]
  refine ⟨a, ha, by omega, by omega, _, hc, ?_, rfl⟩
  rw [decide_eq_true]
  omega
theorem of_spec {n : Nat} (hn : n < 18446744073709551616) : Spec prog 35 #[.int .u64 (n : Int)] F fun r F' => ∃ s', r = s'.v ∧ NV F' s' n ∧ F.le F' := by
  refine c35 ?_
  unfold b35
  intro b11 hb11
  refine atI ?_
  have hd : Int.fdiv (n : Int) (2 ^ (min (Int.toNat (32 : Int)) (IntKind.u64).bits)) = ((n / 4294967296 : Nat) : Int) := fdiv_pow n 32
  have wu : ∀ m : Nat, IntKind.u32.wrap (m : Int) = ((m % 4294967296 : Nat) : Int) := fun m => by
    unfold IntKind.wrap
    simp only [IntKind.bits, IntKind.signed, Bool.false_and, Bool.false_eq_true, if_false]
    omega
  rw [hd, wu, wu]
  have hle := le_set_fresh (.cells #[Value.int .u32 ((n % 4294967296 : Nat) : Int), Value.int .u32 ((n / 4294967296 % 4294967296 : Nat) : Int)] 75) hb11
  have h11 := set_eq F b11 (.cells #[Value.int .u32 ((n % 4294967296 : Nat) : Int), Value.int .u32 ((n / 4294967296 % 4294967296 : Nat) : Int)] 75)
  generalize F.set b11 (.cells #[Value.int .u32 ((n % 4294967296 : Nat) : Int), Value.int .u32 ((n / 4294967296 % 4294967296 : Nat) : Int)] 75) = G at *
  refine (trim_spec (F := G) (l := [n % 4294967296, n / 4294967296 % 4294967296]) (RdS.new h11 rfl rfl (Nat.le_refl _)) (by simp) (fun x hx => ?_)).mono ?_
  · simp only [List.mem_cons, List.not_mem_nil, or_false] at hx
    rcases hx with rfl | rfl <;> exact Nat.mod_lt _ (by decide)
  rintro _ F' ⟨s', rfl, h, rfl⟩
  refine ⟨_, _, rfl, _, rfl, ?_, hle⟩
  have e : lv [n % 4294967296, n / 4294967296 % 4294967296] = n := by
    simp only [lv]
    have h1 := Nat.mod_add_div n 4294967296
    have h2 : n / 4294967296 % 4294967296 = n / 4294967296 := Nat.mod_eq_of_lt (Nat.div_lt_of_lt_mul hn)
    rw [h2]
    omega
  rw [e] at h
  exact h
end
theorem lv_take_succ {l : List Nat} {k : Nat} (h : k < l.length) : lv (l.take (k + 1)) = lv (l.take k) + 4294967296 ^ k * l[k] := by
  rw [List.take_succ_eq_append_getElem h, lv_append, List.length_take, Nat.min_eq_left (by omega)]
  simp [lv]
theorem wu32 (m : Nat) : IntKind.u32.wrap (m : Int) = ((m % 4294967296 : Nat) : Int) := by
  unfold IntKind.wrap
  simp only [IntKind.bits, IntKind.signed, Bool.false_and, Bool.false_eq_true, if_false]
  omega
theorem step_add {R : List Nat} {k c x y d : Nat} (hR : R.length = k) {p q : Nat} (h : lv R + c * 4294967296 ^ k = p + q) (hd : d = c + x + y) :
    lv (R ++ [d % 4294967296]) + d / 4294967296 * 4294967296 ^ (k + 1) = (p + 4294967296 ^ k * x) + (q + 4294967296 ^ k * y) := by
  have e : 4294967296 ^ k * (d % 4294967296) + d / 4294967296 * (4294967296 ^ k * 4294967296) = 4294967296 ^ k * d := by
    have h1 := Nat.mod_add_div d 4294967296
    calc 4294967296 ^ k * (d % 4294967296) + d / 4294967296 * (4294967296 ^ k * 4294967296) = 4294967296 ^ k * (d % 4294967296 + 4294967296 * (d / 4294967296)) := by
          rw [Nat.mul_add]
          congr 1
          rw [Nat.mul_comm (d / 4294967296), Nat.mul_assoc]
      _ = 4294967296 ^ k * d := by rw [h1]
  have e3 : 4294967296 ^ k * d = c * 4294967296 ^ k + 4294967296 ^ k * x + 4294967296 ^ k * y := by
    rw [hd, Nat.mul_add, Nat.mul_add, Nat.mul_comm _ c]
  rw [lv_append, hR, Nat.pow_succ]
  simp only [lv, Nat.mul_zero, Nat.add_zero]
  omega

section
variable {F : PH} {sx sy : Sl} {lx ly : List Nat}
theorem add_j1 (hx : RdS F sx 1 (u32s lx)) (hy : RdS F sy 1 (u32s ly)) (bx : ∀ x ∈ lx, x < 4294967296) (by_ : ∀ x ∈ ly, x < 4294967296) (hle : ly.length ≤ lx.length) (hl : lx.length ≤ 1000) {R : Value → PH → Prop}
    (hR : ∀ s' F', NV F' s' (lv lx + lv ly) → F.le F' → R (.tuple #[s'.v, vi 0]) F') : b33j1 sx sy R F := by
  have lenx := hx.ulen
  have leny := hy.ulen
  unfold b33j1
  have hw : IntKind.i64.wrap ((sx.len : Int) + 1) = ((lx.length + 1 : Nat) : Int) := by rw [lenx]; exact w64s (by omega)
  rw [hw]
  refine runs_makeSlice underlying57 sz75 zr75 rfl (by omega) (Int.le_refl _) (by omega) (by omega) ?_
  intro g hg
  rw [zc1 _ rfl, Int.toNat_natCast]
  refine ⟨_, rfl, ?_⟩
  have l1 := le_set_fresh (.cells (List.replicate (lx.length + 1) (Value.int .u32 0)).toArray 75) hg
  have q1 := set_eq F g (.cells (List.replicate (lx.length + 1) (Value.int .u32 0)).toArray 75)
  have hmin : min sx.len (lx.length + 1) = lx.length := by omega
  -- after the copy
  have body : ∀ F1 : PH, F.le F1 → F1 g = some (.cells (u32s (lx ++ [0])).toArray 75) →
      ∃ (I1 : Nat → Int → Int → PH → Prop) (m1 : Nat), I1 m1 (0 : Int) (0 : Int) F1 ∧ ∀ m1 carry v_33 F, I1 m1 carry v_33 F →
        b33L1 (fun carry v_33 F => ∃ m', m' < m1 ∧ I1 m' carry v_33 F) sx sy ⟨some ⟨g, 0, none⟩, lx.length + 1, lx.length + 1⟩ R carry v_33 F := by
    intro F1 hF1 hg1
    refine ⟨fun m carry i F' => ∃ (k c : Nat) (r : List Nat), i = k ∧ carry = c ∧ k ≤ lx.length ∧ m = lx.length - k ∧ r.length = k ∧ (∀ x ∈ r, x < 4294967296) ∧ c ≤ 1 ∧ lv r + c * 4294967296 ^ k = lv (lx.take k) + lv (ly.take k) ∧
      F.le F' ∧ F' g = some (.cells (u32s (r ++ lx.drop k ++ [0])).toArray 75), lx.length, ⟨0, 0, [], rfl, rfl, by omega, rfl, rfl, by simp, by omega, by simp [lv], hF1, by simpa using hg1⟩, ?_⟩
    rintro m carry i F2 ⟨k, c, r, rfl, rfl, hk, rfl, hr, hrb, hc, hsum, hF2, hg2⟩
    unfold b33L1
    refine ⟨fun hlt => ?_, fun hge => ?_⟩
    · have hkx : k < lx.length := by omega
      have hxk := bx _ (List.getElem_mem hkx)
      have hcell : F2.cell (Addr.add ⟨g, 0, none⟩ (Int.toNat (k : Int) * 1)) = some (.int .u32 (lx[k] : Int)) := by
        simp only [add_mk]
        rw [cell_eq hg2, List.drop_eq_getElem_cons hkx]
        simp [u32s, hr, -List.getElem_cons_drop]
      have wx : IntKind.u64.wrap ((c : Int) + IntKind.u64.wrap (lx[k] : Int)) = ((c + lx[k] : Nat) : Int) := by
        rw [wu64_eq (x := (lx[k] : Int)) (by omega) (by omega), wu64_eq (by omega) (by omega)]; omega
      -- the store and the next round
      have rest : ∀ (y d : Nat), d = c + lx[k] + y → y < 4294967296 → lv (ly.take (k + 1)) = lv (ly.take k) + 4294967296 ^ k * y → ∀ {N : Int → Int → PH → Prop},
          (∀ F3, (∃ (r' : List Nat), r'.length = k + 1 ∧ (∀ x ∈ r', x < 4294967296) ∧ d / 4294967296 ≤ 1 ∧ lv r' + d / 4294967296 * 4294967296 ^ (k + 1) = lv (lx.take (k + 1)) + lv (ly.take (k + 1)) ∧ F.le F3 ∧
            F3 g = some (.cells (u32s (r' ++ lx.drop (k + 1) ++ [0])).toArray 75)) → N ((d / 4294967296 : Nat) : Int) ((k + 1 : Nat) : Int) F3) →
          b33j3 N sx sy ⟨some ⟨g, 0, none⟩, lx.length + 1, lx.length + 1⟩ k (d : Int) R F2 := by
        intro y d hd hy1 hty N hN
        unfold b33j3
        have hw2 : IntKind.i64.wrap ((k : Int) + 1) = ((k + 1 : Nat) : Int) := w64s (by omega)
        have hdv : Int.fdiv (d : Int) (2 ^ (min (Int.toNat (32 : Int)) (IntKind.u64).bits)) = ((d / 4294967296 : Nat) : Int) := fdiv_pow d 32
        rw [hw2, hdv, wu32]
        refine ⟨_, rfl, by omega, by simp only; omega, ?_⟩
        refine st1' (b := g) (o := k) (by simp) hg2 (by simp; omega) ?_
        refine hN _ ⟨r ++ [d % 4294967296], by simp [hr], fun x hx => ?_, by omega, ?_, le_set_new hF2 hg, ?_⟩
        · rcases List.mem_append.1 hx with hx | hx
          · exact hrb x hx
          · rw [List.mem_singleton.1 hx]; exact Nat.mod_lt _ (by decide)
        · rw [step_add hr hsum hd, hty, lv_take_succ hkx]
        · rw [set_eq, List.setIfInBounds_toArray]
          congr 3
          rw [List.drop_eq_getElem_cons hkx]
          simp only [u32s, List.map_append, List.map_cons, List.map_nil, List.append_assoc, List.cons_append, List.nil_append]
          rw [List.set_append_right _ _ (by simp [hr])]
          simp [hr]
      have done : ∀ (d : Nat) (F3 : PH), (∃ (r' : List Nat), r'.length = k + 1 ∧ (∀ x ∈ r', x < 4294967296) ∧ d / 4294967296 ≤ 1 ∧ lv r' + d / 4294967296 * 4294967296 ^ (k + 1) = lv (lx.take (k + 1)) + lv (ly.take (k + 1)) ∧ F.le F3 ∧
            F3 g = some (.cells (u32s (r' ++ lx.drop (k + 1) ++ [0])).toArray 75)) → ∃ m', m' < lx.length - k ∧ ∃ (k' c' : Nat) (r : List Nat), ((k + 1 : Nat) : Int) = k' ∧ ((d / 4294967296 : Nat) : Int) = c' ∧ k' ≤ lx.length ∧ m' = lx.length - k' ∧ r.length = k' ∧ (∀ x ∈ r, x < 4294967296) ∧ c' ≤ 1 ∧
              lv r + c' * 4294967296 ^ k' = lv (lx.take k') + lv (ly.take k') ∧ F.le F3 ∧ F3 g = some (.cells (u32s (r ++ lx.drop k' ++ [0])).toArray 75) := fun d F3 ⟨r', h1, h2, h3, h4, h5, h6⟩ =>
        ⟨lx.length - (k + 1), by omega, k + 1, d / 4294967296, r', rfl, rfl, by omega, rfl, h1, h2, h3, h4, h5, h6⟩
      refine ⟨_, rfl, by omega, by simp only; omega, _, hcell, fun hky => ?_, fun hky => ?_⟩
      · have hky' : k < ly.length := by omega
        have hyk := by_ _ (List.getElem_mem hky')
        obtain ⟨a, ha, hca⟩ := (hy.le hF2).u32 (List.getElem?_eq_getElem hky')
        refine ⟨a, ha, by omega, by omega, _, hca, ?_⟩
        have wy : IntKind.u64.wrap (((c + lx[k] : Nat) : Int) + IntKind.u64.wrap (ly[k] : Int)) = ((c + lx[k] + ly[k] : Nat) : Int) := by
          rw [wu64_eq (x := (ly[k] : Int)) (by omega) (by omega), wu64_eq (by omega) (by omega)]; omega
        rw [wx, wy]
        exact rest ly[k] _ rfl hyk (lv_take_succ hky') (done _)
      · rw [wx]
        have e : c + lx[k] = c + lx[k] + 0 := rfl
        refine rest 0 _ e (by decide) ?_ (done _)
        rw [List.take_of_length_le (by omega), List.take_of_length_le (by omega)]
        simp
    · obtain rfl : k = lx.length := by omega
      unfold b33j2
      rw [lenx]
      refine ⟨_, rfl, by omega, by simp only; omega, ?_⟩
      refine st1' (b := g) (o := lx.length) (by simp) hg2 (by simp [hr]) ?_
      rw [wu32, List.setIfInBounds_toArray, Nat.mod_eq_of_lt (by omega)]
      have e : (u32s (r ++ lx.drop lx.length ++ [0])).set lx.length (Value.int .u32 (c : Int)) = u32s (r ++ [c]) := by
        simp only [u32s, List.drop_length, List.append_nil, List.map_append, List.map_cons, List.map_nil]
        rw [List.set_append_right _ _ (by simp [hr])]
        simp [hr]
      rw [e]
      have hq := set_eq F2 g (.cells (u32s (r ++ [c])).toArray 75)
      have hF3 : F.le (F2.set g (.cells (u32s (r ++ [c])).toArray 75)) := le_set_new hF2 hg
      generalize F2.set g (.cells (u32s (r ++ [c])).toArray 75) = F3 at *
      refine (trim_spec (F := F3) (l := r ++ [c]) (RdS.new hq (List.take_of_length_le (by simp [hr])) (by simp [hr]) (Nat.le_refl _)) (by simp [hr]; omega) (fun x hx => ?_)).mono ?_
      · rcases List.mem_append.1 hx with hx | hx
        · exact hrb x hx
        · rw [List.mem_singleton.1 hx]; omega
      rintro _ F4 ⟨s', rfl, hn, rfl⟩
      refine ⟨_, _, rfl, hR s' _ ?_ hF3⟩
      have e2 : lv (r ++ [c]) = lv lx + lv ly := by
        rw [lv_append, hr]
        simp only [lv, Nat.mul_zero, Nat.add_zero]
        rw [Nat.mul_comm, hsum, List.take_length, List.take_of_length_le hle]
      rw [e2] at hn
      exact hn
  refine runs_copy (d := ⟨some ⟨g, 0, none⟩, lx.length + 1, lx.length + 1⟩) (s := sx) underlying57 rfl sz75 (hx.le l1) (st_u32s lx) (fun h0 => ?_) (fun hp => ?_)
  · simp only [hmin] at h0 ⊢
    refine ⟨_, rfl, body _ l1 ?_⟩
    rw [q1]
    have : lx = [] := List.eq_nil_of_length_eq_zero (by omega)
    subst this
    rfl
  · simp only [hmin] at hp ⊢
    refine ⟨g, 0, _, 75, rfl, q1, by simp, _, rfl, body _ (le_set_new l1 hg) ?_⟩
    rw [set_twice, set_eq]
    congr 2
    have hw := wr_list (u32s lx) (List.replicate (lx.length + 1) (Value.int .u32 0)) 0 (by simp)
    have e : (u32s lx).take (lx.length * 1) = u32s lx := List.take_of_length_le (by simp)
    rw [e, hw]
    simp [u32s, List.replicate_succ']
theorem add_spec {a b : Nat} (ha : NV F sx a) (hb : NV F sy b) (la : (lm a).length ≤ 1000) (lb : (lm b).length ≤ 1000) : Spec prog 33 #[sx.v, sy.v] F fun r F' => ∃ s', r = .tuple #[s'.v, vi 0] ∧ NV F' s' (a + b) ∧ F.le F' := by
  have lenx := RdS.ulen ha
  have leny := RdS.ulen hb
  refine c33 ?_
  unfold b33
  refine (valid_spec ha la).mono ?_
  rintro _ F1 ⟨rfl, rfl⟩
  refine ⟨_, rfl, fun h => (by cases h), fun _ => ?_⟩
  refine (valid_spec hb lb).mono ?_
  rintro _ F1 ⟨rfl, rfl⟩
  refine ⟨_, rfl, fun h => (by cases h), fun _ => ⟨fun h => ?_, fun h => ?_⟩⟩
  · refine add_j1 hb ha (lm_lt b) (lm_lt a) (by omega) lb fun s' F' h1 h2 => ⟨s', rfl, ?_, h2⟩
    rw [lv_lm, lv_lm, Nat.add_comm] at h1
    exact h1
  · refine add_j1 ha hb (lm_lt a) (lm_lt b) (by omega) la fun s' F' h1 h2 => ⟨s', rfl, ?_, h2⟩
    rw [lv_lm, lv_lm] at h1
    exact h1
end
end Go.Proofs.Ytafojmoeaneedaa
