/-
  DiagramCounts: what Count says of not, and, or, and one condition more; the walk.
-/
import Derived.Test.YtafojmoeaneedaaEt
import Derived.Test.YtafojmoeaneedaaFf
import Derived.Test.YtafojmoeaneedaaGL9
namespace Go.Proofs.Ytafojmoeaneedaa
open Go Go.Proofs.Try Tr
set_option maxRecDepth 10000

/-- The configurations over the conditions i .. i+m-1, the others as in c. -/
def cN : Nat → Nat → (Cf → Bool) → Cf → Nat
  | 0, _, f, c => if f c then 1 else 0
  | m + 1, i, f, c => cN m (i + 1) f (c.set i false) + cN m (i + 1) f (c.set i true)
theorem cN_congr {f g : Cf → Bool} : ∀ (m i : Nat) (c : Cf), (∀ d : Cf, (∀ j, j < i → d j = c j) → f d = g d) → cN m i f c = cN m i g c
  | 0, i, c, h => by simp only [cN]; rw [h c fun j _ => rfl]
  | m + 1, i, c, h => by
    simp only [cN]
    have key : ∀ b, cN m (i + 1) f (c.set i b) = cN m (i + 1) g (c.set i b) := fun b => cN_congr m (i + 1) _ fun d hd => h d fun j hj => by
      rw [hd j (by omega)]
      unfold Cf.set
      rw [if_neg (by omega)]
    rw [key, key]
theorem cN_not {f : Cf → Bool} : ∀ (m i : Nat) (c : Cf), cN m i f c + cN m i (fun x => !f x) c = 2 ^ m
  | 0, i, c => by simp only [cN]; rcases Bool.eq_false_or_eq_true (f c) with h | h <;> simp [h]
  | m + 1, i, c => by
    have h1 := cN_not (f := f) m (i + 1) (c.set i false)
    have h2 := cN_not (f := f) m (i + 1) (c.set i true)
    simp only [cN, Nat.pow_succ]
    omega
theorem cN_add {f g : Cf → Bool} : ∀ (m i : Nat) (c : Cf), cN m i f c + cN m i g c = cN m i (fun x => f x && g x) c + cN m i (fun x => f x || g x) c
  | 0, i, c => by simp only [cN]; rcases Bool.eq_false_or_eq_true (f c) with h | h <;> rcases Bool.eq_false_or_eq_true (g c) with h' | h' <;> simp [h, h']
  | m + 1, i, c => by
    have h1 := cN_add (f := f) (g := g) m (i + 1) (c.set i false)
    have h2 := cN_add (f := f) (g := g) m (i + 1) (c.set i true)
    simp only [cN]
    omega
theorem cN_tree {n : Nat} (hn : n ≤ 64) : ∀ (m i : Nat) (t : Tr) (c : Cf), t.ok → below n t → i ≤ t.top → i + m = n → cN m i t.ev c = cv n t * 2 ^ (min n t.top - i)
  | 0, i, t, c, hok, hb, hi, hm => by
    have e : t = leaf (t.ev c) := by
      cases t with
      | leaf b => rfl
      | node v l h => obtain ⟨h1, _⟩ := hb; simp only [top] at hi; omega
    rw [e]
    have : min n (leaf (t.ev c)).top - i = 0 := by omega
    rw [this]
    rcases Bool.eq_false_or_eq_true (t.ev c) with h | h <;> simp [cN, cv, Tr.ev, h]
  | m + 1, i, t, c, hok, hb, hi, hm => by
    by_cases hit : i + 1 ≤ t.top
    · simp only [cN]
      rw [cN_tree hn m (i + 1) t _ hok hb hit (by omega), cN_tree hn m (i + 1) t _ hok hb hit (by omega)]
      have e : min n t.top - i = (min n t.top - (i + 1)) + 1 := by omega
      rw [e, Nat.pow_succ]
      generalize 2 ^ (min n t.top - (i + 1)) = q
      rw [← Nat.mul_assoc, Nat.mul_two]
    · cases t with
      | leaf b => simp only [top] at hi hit; omega
      | node v l h =>
        simp only [top] at hi hit
        obtain rfl : i = v := by omega
        obtain ⟨h0, h1, h2, h3, h4, h5⟩ := hok
        obtain ⟨b0, b1, b2⟩ := hb
        simp only [cN]
        have el : cN m (i + 1) (node i l h).ev (c.set i false) = cN m (i + 1) l.ev (c.set i false) := cN_congr _ _ _ fun d hd => by
          have : d i = false := by rw [hd i (by omega)]; unfold Cf.set; simp
          simp only [Tr.ev, this, Bool.false_eq_true, if_false]
        have eh : cN m (i + 1) (node i l h).ev (c.set i true) = cN m (i + 1) h.ev (c.set i true) := cN_congr _ _ _ fun d hd => by
          have : d i = true := by rw [hd i (by omega)]; unfold Cf.set; simp
          simp only [Tr.ev, this, if_true]
        rw [el, eh, cN_tree hn m (i + 1) l _ h4 b1 (by omega) (by omega), cN_tree hn m (i + 1) h _ h5 b2 (by omega) (by omega)]
        have e : min n (node i l h).top - i = 0 := by simp only [top]; omega
        rw [e]
        simp only [cv]
        omega
theorem countT_cN {n : Nat} (hn : n ≤ 64) {t : Tr} (hok : t.ok) (hb : below n t) (c : Cf) : countT n t = cN n 0 t.ev c := by
  rw [cN_tree hn n 0 t c hok hb (Nat.zero_le _) (Nat.zero_add n)]
  rfl
theorem countT_le {n : Nat} (hn : n ≤ 64) {t : Tr} (hok : t.ok) (hb : below n t) : countT n t ≤ 2 ^ n := by
  rw [countT_cN hn hok hb fun _ => false]
  have := cN_not (f := t.ev) n 0 fun _ => false
  omega
theorem cv_succ {n : Nat} (hn : n < 64) : ∀ (t : Tr), t.ok → below n t → countT (n + 1) t = 2 * countT n t
  | leaf b, _, _ => by
    have h1 : min (n + 1) (leaf b).top = n + 1 := by simp only [top]; omega
    have h2 : min n (leaf b).top = n := by simp only [top]; omega
    unfold countT
    rw [h1, h2, Nat.pow_succ]
    cases b <;> simp [cv, Nat.mul_comm]
  | node v l h, ⟨h0, h1, h2, h3, h4, h5⟩, ⟨b0, b1, b2⟩ => by
    have key : ∀ (x y m : Nat), v < m → x * 2 ^ (min (n + 1) m) = 2 * (y * 2 ^ (min n m)) → x * 2 ^ (min (n + 1) m - (v + 1)) = 2 * (y * 2 ^ (min n m - (v + 1))) := fun x y m hm hxy => by
      have e1 : min (n + 1) m = (min (n + 1) m - (v + 1)) + (v + 1) := by omega
      have e2 : min n m = (min n m - (v + 1)) + (v + 1) := by omega
      rw [e1, e2, Nat.pow_add, Nat.pow_add _ _ (v + 1), ← Nat.mul_assoc, ← Nat.mul_assoc, ← Nat.mul_assoc] at hxy
      have := Nat.eq_of_mul_eq_mul_right (Nat.pow_pos (by decide)) hxy
      rw [this, Nat.mul_assoc]
    have k1 := key _ _ _ h1 (cv_succ hn l h4 b1)
    have k2 := key _ _ _ h2 (cv_succ hn h h5 b2)
    have e1 : min (n + 1) (node v l h).top = v := by simp only [top]; omega
    have e2 : min n (node v l h).top = v := by simp only [top]; omega
    unfold countT
    rw [e1, e2]
    simp only [cv]
    rw [k1, k2, ← Nat.mul_add, Nat.mul_assoc]

theorem compare_same {F : PH} {s s' : Sl} {n : Nat} (hs : NV F s n) (hs' : NV F s' n) (hl : (lm n).length ≤ 1000) : Spec prog 34 #[s.v, s'.v] F fun r F' => r = vi 0 ∧ F' = F := by
  have l1 := RdS.ulen hs
  have l2 := RdS.ulen hs'
  refine c34 ?_
  unfold b34
  refine (valid_spec hs hl).mono ?_
  rintro _ F1 ⟨rfl, rfl⟩
  refine ⟨_, rfl, fun h => (by cases h), fun _ => ?_⟩
  refine (valid_spec hs' hl).mono ?_
  rintro _ F2 ⟨rfl, rfl⟩
  refine ⟨_, rfl, fun h => (by cases h), fun _ => ?_⟩
  refine ⟨fun h => absurd (by rw [l1, l2]) h, fun _ => ?_⟩
  refine ⟨fun m i F' => ∃ k : Nat, i = k ∧ k ≤ (lm n).length ∧ m = (lm n).length - k ∧ F' = F2, (lm n).length, ⟨0, rfl, by omega, rfl, rfl⟩, ?_⟩
  rintro m i F' ⟨k, rfl, hk, rfl, rfl⟩
  unfold b34L1
  refine ⟨fun h => ?_, fun _ => ⟨rfl, rfl⟩⟩
  have hw1 : IntKind.i64.wrap ((s.len : Int) - 1) = (((lm n).length - 1 : Nat) : Int) := by rw [w64_eq (by omega) (by omega)]; omega
  have hw2 : IntKind.i64.wrap ((((lm n).length - 1 : Nat) : Int) - k) = (((lm n).length - 1 - k : Nat) : Int) := by rw [w64_eq (by omega) (by omega)]; omega
  rw [hw1, hw2]
  have hj : (lm n).length - 1 - k < (lm n).length := by omega
  obtain ⟨a, ha, hc⟩ := RdS.u32 hs (List.getElem?_eq_getElem hj)
  obtain ⟨a', ha', hc'⟩ := RdS.u32 hs' (List.getElem?_eq_getElem hj)
  refine ⟨a, ha, by omega, by omega, _, hc, a', ha', by omega, by omega, _, hc', fun h => by omega, fun _ => ⟨fun h => by omega, fun _ => ?_⟩⟩
  exact ⟨(lm n).length - (k + 1), by omega, k + 1, w64s (by omega), by omega, rfl, rfl⟩

/-! THE WALK -/
set_option maxHeartbeats 1000000 in
theorem counts_j1 {F0 F : PH} {ta tb : Tr} {b8 b9 : Nat} {n : Int} (hn0 : 0 ≤ n) (hn1 : n ≤ 255) (ka : Sx 6 ta) (kb : Sx 6 tb) (hle : F0.le F) (h0 : Los F [(b9, dia tb), (b8, dia ta)]) {R : Value → PH → Prop} (hR : ∀ F', F0.le F' → R (.bool true) F') :
    b9j1 n true (some (Addr.mk b8 0 none)) (some (Addr.mk b9 0 none)) R F := by
  have sa := ka.small (by omega)
  have sb := kb.small (by omega)
  have kn : Sx 6 (ap2 (fun x _ => !x) ta (leaf false)) := ka.ap2 (Sx.leaf _ _)
  have kc : Sx 6 (ap2 oAnd ta tb) := ka.ap2 kb
  have ko : Sx 6 (ap2 oOr ta tb) := ka.ap2 kb
  have sn := kn.small (by omega)
  have sc := kc.small (by omega)
  have so := ko.small (by omega)
  have en : bin (fun x _ => !x) (dia ta) none0 = (dia (ap2 (fun x _ => !x) ta (leaf false)), 0) := by rw [dia_none0, bin_ap sa (leaf_small _)]; exact lim_small sn
  have ec : bin oAnd (dia ta) (dia tb) = (dia (ap2 oAnd ta tb), 0) := by rw [bin_ap sa sb]; exact lim_small sc
  have eo : bin oOr (dia ta) (dia tb) = (dia (ap2 oOr ta tb), 0) := by rw [bin_ap sa sb]; exact lim_small so
  have fn := (ap2_facts (o := fun x _ => !x) ka.1 (Sx.leaf 6 false).1).2
  have fc := (ap2_facts (o := oAnd) ka.1 kb.1).2
  have fo := (ap2_facts (o := oOr) ka.1 kb.1).2
  generalize ap2 (fun x _ => !x) ta (leaf false) = tn at *
  generalize ap2 oAnd ta tb = tc at *
  generalize ap2 oOr ta tb = to at *
  have hwk : IntKind.i64.wrap ((6 : Int) + IntKind.i64.wrap (Int.tmod n 58)) = ((6 + (n % 58).toNat : Nat) : Int) := by
    rw [Int.tmod_eq_emod_of_nonneg hn0, w64_eq (x := n % 58) (by omega) (by omega), w64_eq (by omega) (by omega)]; omega
  have hk6 : 6 ≤ 6 + (n % 58).toNat := by omega
  have hk63 : 6 + (n % 58).toNat ≤ 63 := by omega
  generalize 6 + (n % 58).toNat = k at *
  have hwk1 : IntKind.i64.wrap ((k : Int) + 1) = ((k + 1 : Nat) : Int) := w64s (by omega)
  have hwu : IntKind.u64.wrap (k : Int) = (k : Int) := wu64_eq (by omega) (by omega)
  have hpw : IntKind.u64.wrap ((1 : Int) * 2 ^ (min (Int.toNat (k : Int)) (IntKind.u64).bits)) = ((2 ^ k : Nat) : Int) := by
    have hm : min (Int.toNat (k : Int)) (IntKind.u64).bits = k := by simp only [IntKind.bits, Int.toNat_natCast]; omega
    have e1 : (1 : Int) * 2 ^ k = ((2 ^ k : Nat) : Int) := by simp
    have h64 : (2 : Nat) ^ k ≤ 2 ^ 63 := Nat.pow_le_pow_right (by decide) hk63
    rw [hm, e1]
    generalize 2 ^ k = q at *
    rw [wu64_eq (by omega) (by omega)]
  unfold b9j1
  rw [hwk, hwu, hpw, hwk1]
  refine ⟨_, rfl, ?_⟩
  refine getD (b := b8) (d := dia ta) h0 (by simp) fun w0 hw0 => ?_
  have s := not_spec hw0
  rw [en] at s
  refine s.mono ?_
  clear s
  rintro _ F1 ⟨⟨w, rfl, hw⟩, la⟩
  refine ⟨w, _, rfl, ?_⟩
  have hF1 := h0.le la
  have lF1 := hle.trans la
  clear la
  refine locD hw rfl hF1 fun b11 F2 lb hF2 hc => ?_
  have lF2 := lF1.trans lb
  clear hc hw lb
  refine getD (b := b8) (d := dia ta) hF2 (by simp) fun w0 hw0 => ?_
  refine ⟨_, rfl, ?_⟩
  refine getD (b := b9) (d := dia tb) hF2 (by simp) fun w1 hw1 => ?_
  have s := and_spec hw0 hw1
  rw [ec] at s
  refine s.mono ?_
  clear s
  rintro _ F3 ⟨⟨w, rfl, hw⟩, la⟩
  refine ⟨w, _, rfl, ?_⟩
  have hF3 := hF2.le la
  have lF3 := lF2.trans la
  clear la
  refine locD hw rfl hF3 fun b13 F4 lb hF4 hc => ?_
  have lF4 := lF3.trans lb
  clear hc hw lb
  refine getD (b := b8) (d := dia ta) hF4 (by simp) fun w0 hw0 => ?_
  refine getD (b := b9) (d := dia tb) hF4 (by simp) fun w1 hw1 => ?_
  have s := or_spec hw0 hw1
  rw [eo] at s
  refine s.mono ?_
  clear s
  rintro _ F5 ⟨⟨w, rfl, hw⟩, la⟩
  refine ⟨w, _, rfl, ?_⟩
  have hF5 := hF4.le la
  have lF5 := lF4.trans la
  clear la
  refine locD hw rfl hF5 fun b15 F6 lb hF6 hc => ?_
  have lF6 := lF5.trans lb
  clear hc hw lb
  refine getD (b := b8) (d := dia ta) hF6 (by simp) fun w0 hw0 => ?_
  have s := count_spec hw0 ((k : Nat) : Int)
  rw [count_eq (ka.small (by omega)) (by omega) (ka.mono (by omega)).2] at s
  refine s.mono ?_
  clear s
  rintro _ F7 ⟨p, rfl, np, la⟩
  refine ⟨_, _, rfl, ?_⟩
  have hF7 := hF6.le la
  have lF7 := lF6.trans la
  clear la
  refine getD (b := b9) (d := dia tb) hF7 (by simp) fun w0 hw0 => ?_
  have s := count_spec hw0 ((k : Nat) : Int)
  rw [count_eq (kb.small (by omega)) (by omega) (kb.mono (by omega)).2] at s
  refine s.mono ?_
  clear s
  rintro _ F8 ⟨q, rfl, nq, la⟩
  refine ⟨_, _, rfl, ?_⟩
  have hF8 := hF7.le la
  have lF8 := lF7.trans la
  replace np := np.le la
  clear la
  refine getD (b := b11) (d := dia tn) hF8 (by simp) fun w0 hw0 => ?_
  have s := count_spec hw0 ((k : Nat) : Int)
  rw [count_eq (kn.small (by omega)) (by omega) (kn.mono (by omega)).2] at s
  refine s.mono ?_
  clear s
  rintro _ F9 ⟨r, rfl, nr, la⟩
  refine ⟨_, _, rfl, ?_⟩
  have hF9 := hF8.le la
  have lF9 := lF8.trans la
  replace np := np.le la
  replace nq := nq.le la
  clear la
  refine getD (b := b13) (d := dia tc) hF9 (by simp) fun w0 hw0 => ?_
  have s := count_spec hw0 ((k : Nat) : Int)
  rw [count_eq (kc.small (by omega)) (by omega) (kc.mono (by omega)).2] at s
  refine s.mono ?_
  clear s
  rintro _ F10 ⟨u, rfl, nu, la⟩
  refine ⟨_, _, rfl, ?_⟩
  have hF10 := hF9.le la
  have lF10 := lF9.trans la
  replace np := np.le la
  replace nq := nq.le la
  replace nr := nr.le la
  clear la
  refine getD (b := b15) (d := dia to) hF10 (by simp) fun w0 hw0 => ?_
  have s := count_spec hw0 ((k : Nat) : Int)
  rw [count_eq (ko.small (by omega)) (by omega) (ko.mono (by omega)).2] at s
  refine s.mono ?_
  clear s
  rintro _ F11 ⟨w, rfl, nw, la⟩
  refine ⟨_, _, rfl, ?_⟩
  have hF11 := hF10.le la
  have lF11 := lF10.trans la
  replace np := np.le la
  replace nq := nq.le la
  replace nr := nr.le la
  replace nu := nu.le la
  clear la
  refine getD (b := b8) (d := dia ta) hF11 (by simp) fun w0 hw0 => ?_
  have s := count_spec hw0 ((k + 1 : Nat) : Int)
  rw [count_eq (ka.small (by omega)) (by omega) (ka.mono (by omega)).2] at s
  refine s.mono ?_
  clear s
  rintro _ F12 ⟨mo, rfl, nmo, la⟩
  refine ⟨_, _, rfl, ?_⟩
  have hF12 := hF11.le la
  have lF12 := lF11.trans la
  replace np := np.le la
  replace nq := nq.le la
  replace nr := nr.le la
  replace nu := nu.le la
  replace nw := nw.le la
  clear la
  refine ⟨fun h => absurd rfl h, fun _ => ⟨fun h => absurd rfl h, fun _ => ⟨fun h => absurd rfl h, fun _ => ⟨fun h => absurd rfl h, fun _ => ⟨fun h => absurd rfl h, fun _ => ⟨fun h => absurd rfl h, fun _ => ?_⟩⟩⟩⟩⟩⟩
  have c0 : Cf := fun _ => false
  have La := countT_cN (n := k) (by omega) ka.1 (ka.mono hk6).2 c0
  have Lb := countT_cN (n := k) (by omega) kb.1 (kb.mono hk6).2 c0
  have Ln := countT_cN (n := k) (by omega) kn.1 (kn.mono hk6).2 c0
  have Lc := countT_cN (n := k) (by omega) kc.1 (kc.mono hk6).2 c0
  have Lo := countT_cN (n := k) (by omega) ko.1 (ko.mono hk6).2 c0
  have gn : tn.ev = fun x => !ta.ev x := funext fun x => fn x
  have gc : tc.ev = fun x => ta.ev x && tb.ev x := funext fun x => fc x
  have go : to.ev = fun x => ta.ev x || tb.ev x := funext fun x => fo x
  rw [gn] at Ln
  rw [gc] at Lc
  rw [go] at Lo
  have M1 : countT k ta + countT k tn = 2 ^ k := by rw [La, Ln]; exact cN_not k 0 c0
  have M2 : countT k tc + countT k to = countT k ta + countT k tb := by rw [La, Lb, Lc, Lo]; exact (cN_add k 0 c0).symm
  have M3 : countT k ta + countT k ta = countT (k + 1) ta := by rw [cv_succ (by omega) ta ka.1 (ka.mono hk6).2]; omega
  have B : (2 : Nat) ^ k ≤ 2 ^ 63 := Nat.pow_le_pow_right (by decide) hk63
  have Ba := countT_le (n := k) (by omega) ka.1 (ka.mono hk6).2
  have Bb := countT_le (n := k) (by omega) kb.1 (kb.mono hk6).2
  have Bn := countT_le (n := k) (by omega) kn.1 (kn.mono hk6).2
  have Bc := countT_le (n := k) (by omega) kc.1 (kc.mono hk6).2
  have Bo := countT_le (n := k) (by omega) ko.1 (ko.mono hk6).2
  have s := add_spec np nr (lm_small (by show countT k _ ≤ _; omega)) (lm_small (by show countT k _ ≤ _; omega))
  refine s.mono ?_
  clear s
  rintro _ F13 ⟨x1, rfl, nx1, la⟩
  refine ⟨_, _, rfl, ?_⟩
  have hF13 := hF12.le la
  have lF13 := lF12.trans la
  replace np := np.le la
  replace nq := nq.le la
  replace nr := nr.le la
  replace nu := nu.le la
  replace nw := nw.le la
  replace nmo := nmo.le la
  clear la
  have s := add_spec np nq (lm_small (by show countT k _ ≤ _; omega)) (lm_small (by show countT k _ ≤ _; omega))
  refine s.mono ?_
  clear s
  rintro _ F14 ⟨x2, rfl, nx2, la⟩
  refine ⟨_, _, rfl, ?_⟩
  have hF14 := hF13.le la
  have lF14 := lF13.trans la
  replace np := np.le la
  replace nq := nq.le la
  replace nr := nr.le la
  replace nu := nu.le la
  replace nw := nw.le la
  replace nmo := nmo.le la
  replace nx1 := nx1.le la
  clear la
  have s := add_spec nu nw (lm_small (by show countT k _ ≤ _; omega)) (lm_small (by show countT k _ ≤ _; omega))
  refine s.mono ?_
  clear s
  rintro _ F15 ⟨x3, rfl, nx3, la⟩
  refine ⟨_, _, rfl, ?_⟩
  have hF15 := hF14.le la
  have lF15 := lF14.trans la
  replace np := np.le la
  replace nq := nq.le la
  replace nr := nr.le la
  replace nu := nu.le la
  replace nw := nw.le la
  replace nmo := nmo.le la
  replace nx1 := nx1.le la
  replace nx2 := nx2.le la
  clear la
  have s := add_spec np np (lm_small (by show countT k _ ≤ _; omega)) (lm_small (by show countT k _ ≤ _; omega))
  refine s.mono ?_
  clear s
  rintro _ F16 ⟨x4, rfl, nx4, la⟩
  refine ⟨_, _, rfl, ?_⟩
  have hF16 := hF15.le la
  have lF16 := lF15.trans la
  replace np := np.le la
  replace nq := nq.le la
  replace nr := nr.le la
  replace nu := nu.le la
  replace nw := nw.le la
  replace nmo := nmo.le la
  replace nx1 := nx1.le la
  replace nx2 := nx2.le la
  replace nx3 := nx3.le la
  clear la
  refine ⟨by omega, ?_⟩
  have s := of_spec (F := F16) (n := 2 ^ k) (by omega)
  refine s.mono ?_
  clear s
  rintro _ F17 ⟨x5, rfl, nx5, la⟩
  refine ⟨_, rfl, ?_⟩
  have hF17 := hF16.le la
  have lF17 := lF16.trans la
  replace np := np.le la
  replace nq := nq.le la
  replace nr := nr.le la
  replace nu := nu.le la
  replace nw := nw.le la
  replace nmo := nmo.le la
  replace nx1 := nx1.le la
  replace nx2 := nx2.le la
  replace nx3 := nx3.le la
  replace nx4 := nx4.le la
  clear la
  replace nx1 : NV F17 x1 (2 ^ k) := M1 ▸ nx1
  replace nx3 : NV F17 x3 (countT k ta + countT k tb) := M2 ▸ nx3
  replace nx4 : NV F17 x4 (countT (k + 1) ta) := M3 ▸ nx4
  refine (compare_same nx1 nx5 (lm_small (by omega))).mono ?_
  rintro _ _ ⟨rfl, rfl⟩
  refine ⟨_, rfl, fun _ => ?_, fun h => absurd rfl h⟩
  refine (compare_same nx2 nx3 (lm_small (by show countT k ta + countT k tb ≤ _; omega))).mono ?_
  rintro _ _ ⟨rfl, rfl⟩
  refine ⟨_, rfl, fun _ => ?_, fun h => absurd rfl h⟩
  refine (compare_same nx4 nmo (lm_small (by omega))).mono ?_
  rintro _ _ ⟨rfl, rfl⟩
  refine ⟨_, rfl, fun _ => ?_, fun h => absurd rfl h⟩
  exact hR _ lF17
set_option maxHeartbeats 4000000 in
theorem counts_spec {F : PH} {s0 t0 : Array Value} {n0 n1 n : Int} (hs : SetV F s0 n0) (ht : SetV F t0 n1) (hn0 : 0 ≤ n) (hn1 : n ≤ 255) : Spec prog 9 #[.agg s0, .agg t0, .int .u8 n] F fun r F' => r = .bool true ∧ F.le F' := by
  refine c9 ?_
  unfold b9
  intro b3 hb3
  refine atI ?_
  have la := le_set_fresh (.cells s0 24) hb3
  have q3 := set_eq F b3 (.cells s0 24)
  generalize F.set b3 (.cells s0 24) = G at *
  intro b4 hb4
  refine atI ?_
  have lb := le_set_fresh (.cells t0 24) hb4
  have q4 := set_eq G b4 (.cells t0 24)
  replace q3 := lb _ _ q3
  have l2 := la.trans lb
  clear la lb
  generalize G.set b4 (.cells t0 24) = G2 at *
  refine (sanity_spec G2).mono ?_
  rintro _ F1 ⟨rfl, la⟩
  replace q3 := la _ _ q3
  replace q4 := la _ _ q4
  replace l2 := l2.trans la
  refine ⟨_, rfl, ?_⟩
  refine ⟨_, hs.size, row_whole q3, _, ht.size, row_whole q4, ?_⟩
  have fin : ∀ {F' : PH} {b8 b9 : Nat} {ta tb : Tr}, F1.le F' → Sx 6 ta → Sx 6 tb → Los F' [(b9, dia tb), (b8, dia ta)] → b9j1 n true (some (Addr.mk b8 0 none)) (some (Addr.mk b9 0 none)) (fun r F' => r = .bool true ∧ F.le F') F' := fun hl ka kb h0 =>
    counts_j1 hn0 hn1 ka kb hl h0 fun F' h => ⟨rfl, l2.trans h⟩
  have hs1 := hs.le l2
  have ht1 := ht.le l2
  have st := RSt.start F1
  repeat' first
    | with_reducible refine ⟨R_row (by assumption) q3, ?_⟩
    | with_reducible refine ⟨R_row (by assumption) q4, ?_⟩
    | with_reducible refine R_alloc (by assumption) fun b F' h => ?_
    | with_reducible refine R_made (by assumption) hs1 fun w t F' h => ?_
    | with_reducible refine R_made (by assumption) ht1 fun w t F' h => ?_
    | with_reducible exact R_fin2 (by assumption) (by first | exact .inl rfl | exact .inr rfl) (by first | exact .inl rfl | exact .inr rfl) fun F' hl ka kb h0 => fin hl ka kb h0
    | with_reducible refine ⟨?_, ?_⟩
end Go.Proofs.Ytafojmoeaneedaa
