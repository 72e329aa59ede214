/-
  Trees over few conditions; the sets that the laws take.
-/
import Derived.Test.YtafojmoeaneedaaFa
namespace Go.Proofs.Ytafojmoeaneedaa
open Go Go.Proofs.Try Tr
set_option maxRecDepth 10000

theorem below_lo {n v : Nat} {t : Tr} (h : below n t) : below n (lo v t) := by
  cases t with
  | leaf b => trivial
  | node w l r =>
    simp only [lo]
    split
    · exact h.2.1
    · exact h
theorem below_hi {n v : Nat} {t : Tr} (h : below n t) : below n (hi v t) := by
  cases t with
  | leaf b => trivial
  | node w l r =>
    simp only [hi]
    split
    · exact h.2.2
    · exact h
theorem below_mk {n v : Nat} {l h : Tr} (hv : v < n) (h1 : below n l) (h2 : below n h) : below n (mk v l h) := by
  unfold mk
  split
  · exact h1
  · exact ⟨hv, h1, h2⟩
theorem below_top {n : Nat} {t : Tr} (h : below n t) (hl : t.isL = false) : t.top < n := by
  cases t with
  | leaf b => cases hl
  | node v l r => exact h.1
theorem below_ap (o : Op3) {n : Nat} : ∀ (k : Nat) (a b d : Tr), a.sz + b.sz + d.sz ≤ k → a.ok → b.ok → d.ok → below n a → below n b → below n d → below n (ap o a b d) := by
  intro k
  induction k with
  | zero => intro a b d hk; have := sz_pos a; omega
  | succ k ih =>
    intro a b d hk ha hb hd na nb nd
    by_cases hv : top3 a b d < 64
    · have hst := ap_step (o := o) ha hb hd hv
      have v1 : top3 a b d ≤ a.top := by unfold top3; omega
      have v2 : top3 a b d ≤ b.top := by unfold top3; omega
      have v3 : top3 a b d ≤ d.top := by unfold top3; omega
      have hcase : top3 a b d = a.top ∨ top3 a b d = b.top ∨ top3 a b d = d.top := by unfold top3; omega
      generalize top3 a b d = v at *
      have nl : ∀ {t : Tr}, v = t.top → t.isL = false := fun {t} e => by
        cases t with
        | leaf b => simp only [top] at e; omega
        | node _ _ _ => rfl
      obtain ⟨al1, al2, al3, al4, al5⟩ := lo_facts ha v1
      obtain ⟨bl1, bl2, bl3, bl4, bl5⟩ := lo_facts hb v2
      obtain ⟨dl1, dl2, dl3, dl4, dl5⟩ := lo_facts hd v3
      obtain ⟨ah1, ah2, ah3, ah4, ah5⟩ := hi_facts ha v1
      obtain ⟨bh1, bh2, bh3, bh4, bh5⟩ := hi_facts hb v2
      obtain ⟨dh1, dh2, dh3, dh4, dh5⟩ := hi_facts hd v3
      have hvn : v < n := by
        rcases hcase with e | e | e
        · have := below_top na (nl e); omega
        · have := below_top nb (nl e); omega
        · have := below_top nd (nl e); omega
      have hsl : (lo v a).sz + (lo v b).sz + (lo v d).sz ≤ k := by
        rcases hcase with e | e | e
        · have := al4 e.symm (nl e); omega
        · have := bl4 e.symm (nl e); omega
        · have := dl4 e.symm (nl e); omega
      have hsh : (hi v a).sz + (hi v b).sz + (hi v d).sz ≤ k := by
        rcases hcase with e | e | e
        · have := ah4 e.symm (nl e); omega
        · have := bh4 e.symm (nl e); omega
        · have := dh4 e.symm (nl e); omega
      rw [hst]
      exact below_mk hvn (ih _ _ _ hsl al1 bl1 dl1 (below_lo na) (below_lo nb) (below_lo nd)) (ih _ _ _ hsh ah1 bh1 dh1 (below_hi na) (below_hi nb) (below_hi nd))
    · unfold top3 at hv
      obtain ⟨p, rfl⟩ := leaf_of_top ha (by omega)
      obtain ⟨q, rfl⟩ := leaf_of_top hb (by omega)
      obtain ⟨r, rfl⟩ := leaf_of_top hd (by omega)
      rw [ap_leaf]
      trivial
theorem below_fx {n w : Nat} {b : Bool} : ∀ (t : Tr), t.ok → below n t → below n (fx w b t)
  | leaf x, _, _ => by rw [fx_leaf]; trivial
  | node v l h, hk, ⟨b0, b1, b2⟩ => by
    have hf := fx_node (w := w) (b := b) hk
    obtain ⟨h0, h1, h2, h3, h4, h5⟩ := hk
    rw [hf]
    split
    · split
      · exact below_fx h h5 b2
      · exact below_fx l h4 b1
    · exact below_mk b0 (below_fx l h4 b1) (below_fx h h5 b2)
theorem cnt_le {n : Nat} (hn : n ≤ 64) : ∀ (t : Tr), t.ok → below n t → cnt t + 1 ≤ 2 ^ (n - min n t.top)
  | leaf b, _, _ => by
    have : n - min n (leaf b).top = 0 := by simp only [top]; omega
    rw [this]
    simp [cnt]
  | node v l h, ⟨h0, h1, h2, h3, h4, h5⟩, ⟨b0, b1, b2⟩ => by
    have il := cnt_le hn l h4 b1
    have ih := cnt_le hn h h5 b2
    have k1 : 2 ^ (n - min n l.top) ≤ 2 ^ (n - (v + 1)) := Nat.pow_le_pow_right (by decide) (by omega)
    have k2 : 2 ^ (n - min n h.top) ≤ 2 ^ (n - (v + 1)) := Nat.pow_le_pow_right (by decide) (by omega)
    have e : n - min n (node v l h).top = n - (v + 1) + 1 := by simp only [top]; omega
    rw [e, Nat.pow_succ]
    simp only [cnt]
    omega

/-- A tree over at most n conditions. -/
def Sx (n : Nat) (t : Tr) : Prop := t.ok ∧ below n t
theorem Sx.cnt63 {n : Nat} {t : Tr} (h : Sx n t) (hn : n ≤ 6) : cnt t ≤ 63 := by
  have h1 := cnt_le (by omega : n ≤ 64) t h.1 h.2
  have h2 : 2 ^ (n - min n t.top) ≤ 2 ^ 6 := Nat.pow_le_pow_right (by decide) (by omega)
  omega
theorem Sx.small {n : Nat} {t : Tr} (h : Sx n t) (hn : n ≤ 6) : Small t := small_of h.1 (by have := h.cnt63 hn; omega)
theorem Sx.len {n : Nat} {t : Tr} (h : Sx n t) (hn : n ≤ 6) : (subs t).length ≤ 63 := Nat.le_trans (subs_length t) (h.cnt63 hn)
theorem Sx.ap {n : Nat} {o : Op3} {a b d : Tr} (ha : Sx n a) (hb : Sx n b) (hd : Sx n d) : Sx n (Tr.ap o a b d) := ⟨ap_ok ha.1 hb.1 hd.1, below_ap o _ a b d (Nat.le_refl _) ha.1 hb.1 hd.1 ha.2 hb.2 hd.2⟩
theorem Sx.leaf (n : Nat) (b : Bool) : Sx n (Tr.leaf b) := ⟨trivial, trivial⟩
theorem Sx.ap2 {n : Nat} {o : Op2} {a b : Tr} (ha : Sx n a) (hb : Sx n b) : Sx n (ap2 o a b) := Sx.ap ha hb (Sx.leaf n _)
theorem Sx.fx {n w : Nat} {b : Bool} {t : Tr} (h : Sx n t) : Sx n (fx w b t) := ⟨(fx_facts w b h.1).1, below_fx t h.1 h.2⟩
theorem Sx.tv {n v : Nat} (hv : v < n) (hn : n ≤ 6) : Sx n (tv v) := ⟨ok_tv (by omega), hv, trivial, trivial⟩
theorem Sx.mono {n m : Nat} {t : Tr} (h : Sx n t) (hm : n ≤ m) : Sx m t := by
  refine ⟨h.1, ?_⟩
  have : ∀ t : Tr, below n t → below m t := by
    intro t
    induction t with
    | leaf b => exact fun _ => trivial
    | node v l r il ir => exact fun ⟨a, b, c⟩ => ⟨by omega, il b, ir c⟩
  exact this t h.2
theorem Sx.f2 {n : Nat} {o : Op2} {a b : Tr} (ha : Sx n a) (hb : Sx n b) (hn : n ≤ 6) : F2 o a b := by
  have la := ha.len hn
  have lb := hb.len hn
  have lt := (ha.ap2 (o := o) hb).len hn
  have hp : ((subs a).length + 2) * ((subs b).length + 2) ≤ 65 * 65 := Nat.mul_le_mul (by omega) (by omega)
  exact ⟨ha.1, hb.1, by omega, by omega, by omega, by omega⟩

/-! the sets -/
theorem wu64v {v : Nat} (h : v < 64) : IntKind.u64.wrap (v : Int) = (v : Int) := wu64_eq (by omega) (by omega)
theorem callX {n : Nat} {f : FuncId} {args : Array Value} {F : PH} {x : Nat} {o : Obj} (h : Spec prog f args (del1 F x) fun r F' => ∃ w t, r = .agg w ∧ Sx n t ∧ DV F' w (dia t) ∧ (del1 F x).le F') (hx : F x = some o) :
    Spec prog f args F fun r F' => ∃ w t, r = .agg w ∧ Sx n t ∧ (∃ G, DV G w (dia t) ∧ G.le F' ∧ G x = none) ∧ F.le F' ∧ F' x = some o :=
  (Spec.avoid h hx).mono fun r F' ⟨G, ⟨w, t, hr, ht, hw, lg⟩, lG, q, g⟩ => ⟨w, t, hr, ht, ⟨G, hw, lG, g⟩, le_avoid lg lG q hx, q⟩
theorem table_spec {n : Nat} (hn : n ≤ 6) : ∀ (m v k : Nat), v + m = n → k < 2 ^ v → ∀ (F : PH) (sl : Sl) (l : List Int), RdS F sl 1 (l.map (Value.int .u8)) →
    Spec prog 93 #[sl.v, vi n, vi v, vi k] F fun r F' => ∃ u t, r = .agg u ∧ Sx n t ∧ DV F' u (dia t) ∧ F.le F' := by
  intro m
  induction m with
  | zero =>
    intro v k hvm hk F sl l hr
    obtain rfl : v = n := by omega
    have hk64 : k < 64 := Nat.lt_of_lt_of_le hk (Nat.pow_le_pow_right (by decide) hn)
    refine c93 ?_
    unfold b93
    intro b8 hb8
    refine atI ?_
    have l8 := le_set_fresh (.cells #[Value.slice none 0 0, Value.int .i64 0] 28) hb8
    have q8 := set_eq F b8 (.cells #[Value.slice none 0 0, Value.int .i64 0] 28)
    have hr8 := hr.le l8
    generalize F.set b8 (.cells #[Value.slice none 0 0, Value.int .i64 0] 28) = F8 at *
    have hd : IntKind.i64.wrap (Int.tdiv (k : Int) 8) = ((k / 8 : Nat) : Int) := by
      rw [Int.tdiv_eq_ediv_of_nonneg (by omega), w64_eq (by omega) (by omega)]
      rfl
    have hm : IntKind.u64.wrap (Int.tmod (k : Int) 8) = ((k % 8 : Nat) : Int) := by
      rw [Int.tmod_eq_emod_of_nonneg (by omega), wu64_eq (by omega) (by omega)]
      rfl
    have hlen := hr8.len
    simp at hlen
    refine ⟨fun _ => ⟨fun hlt => ?_, fun _ => ?_⟩, fun h => absurd rfl h⟩
    · rw [hd] at hlt ⊢
      have hkl : k / 8 < l.length := by omega
      obtain ⟨b, o, hb, hc⟩ := hr8.cells (by omega)
      have hcell := hc (k / 8) (by simpa using hkl)
      refine ⟨_, hb, by omega, hlt, l[k / 8], by rw [add_mk, Int.toNat_natCast, Nat.mul_one]; simpa using hcell, by rw [hm]; omega, ?_⟩
      refine (callD (rconstant_spec (F := del1 F8 b8) _) q8).mono ?_
      rintro _ F9 ⟨u, rfl, ⟨G, hu, lG, gG⟩, l9, q9⟩
      refine ⟨_, rfl, ?_⟩
      exact ret2 (K := fun vres F' => ∃ u t, Value.agg vres = .agg u ∧ Sx v t ∧ DV F' u (dia t) ∧ F.le F') hu q9 rfl ⟨_, _, rfl, Sx.leaf v _, hu.le (le_set_new lG gG), le_set_new (l8.trans l9) hb8⟩
    · refine (callD (rconstant_spec (F := del1 F8 b8) false) q8).mono ?_
      rintro _ F9 ⟨u, rfl, ⟨G, hu, lG, gG⟩, l9, q9⟩
      refine ⟨_, rfl, ?_⟩
      exact ret2 (K := fun vres F' => ∃ u t, Value.agg vres = .agg u ∧ Sx v t ∧ DV F' u (dia t) ∧ F.le F') hu q9 rfl ⟨_, _, rfl, Sx.leaf v _, hu.le (le_set_new lG gG), le_set_new (l8.trans l9) hb8⟩
  | succ m ih =>
    intro v k hvm hk F sl l hr
    have hvn : v < n := by omega
    have hk64 : k < 64 := Nat.lt_of_lt_of_le hk (Nat.le_trans (Nat.pow_le_pow_right (by decide : 2 > 0) (by omega : v ≤ 6)) (by decide))
    have hp64 : 2 ^ v ≤ 32 := Nat.le_trans (Nat.pow_le_pow_right (by decide : 2 > 0) (by omega : v ≤ 5)) (by decide)
    refine c93 ?_
    unfold b93
    intro b8 hb8
    refine atI ?_
    have l8 := le_set_fresh (.cells #[Value.slice none 0 0, Value.int .i64 0] 28) hb8
    have q8 := set_eq F b8 (.cells #[Value.slice none 0 0, Value.int .i64 0] 28)
    generalize F.set b8 (.cells #[Value.slice none 0 0, Value.int .i64 0] 28) = F8 at *
    refine ⟨fun h => by omega, fun _ => ?_⟩
    have hvar := rvar_spec (F := del1 F8 b8) (v : Int)
    rw [varD_eq (by omega)] at hvar
    refine (callDR hvar q8).mono ?_
    rintro _ F9 ⟨x, rfl, ⟨G, hx, lG, gG⟩, l9, q9⟩
    refine ⟨_, _, rfl, ?_⟩
    intro b9 hb9
    refine atI ?_
    refine stW (set_eq _ _ _) hx.size rfl hx.st ?_
    rw [set_twice]
    have n89 : b8 ≠ b9 := ne_of_fresh hb9 q9
    have lx := le_set_fresh (.cells x 28) hb9
    have r9 := set_eq F9 b9 (.cells x 28)
    have q10 := lx _ _ q9
    have hx10 := hx.beside (lG.trans lx) gG
    have l10 := l8.trans (l9.trans lx)
    generalize F9.set b9 (.cells x 28) = F10 at *
    have wv : IntKind.i64.wrap ((v : Int) + 1) = ((v + 1 : Nat) : Int) := w64s (by omega)
    have w2 : IntKind.i64.wrap ((1 : Int) * 2 ^ (min (Int.toNat (IntKind.u64.wrap (v : Int))) (IntKind.i64).bits)) = ((2 ^ v : Nat) : Int) := by
      rw [wu64v (by omega)]
      have hm : min (Int.toNat (v : Int)) (IntKind.i64).bits = v := by simp only [IntKind.bits, Int.toNat_natCast]; omega
      have e1 : (1 : Int) * 2 ^ v = ((2 ^ v : Nat) : Int) := by simp
      rw [hm, e1, w64_eq (by omega) (by omega)]
    have wk : IntKind.i64.wrap ((k : Int) + ((2 ^ v : Nat) : Int)) = ((k + 2 ^ v : Nat) : Int) := by rw [w64_eq (by omega) (by omega)]; omega
    rw [w2, wk, wv]
    refine ⟨x, hx.size, row_whole r9, by rw [wu64v (by omega)]; omega, x, hx.size, row_whole r9, ?_⟩
    have hpow : 2 ^ (v + 1) = 2 ^ v + 2 ^ v := by rw [Nat.pow_succ]; omega
    refine (callX (ih (v + 1) (k + 2 ^ v) (by omega) (by omega) (del1 F10 b8) sl l (hr.le (le_del1 l10 hb8))) q10).mono ?_
    rintro _ F11 ⟨u1, t1, rfl, k1, ⟨G1, h1, lG1, gG1⟩, l11, q11⟩
    refine ⟨_, rfl, row_whole (l11 _ _ r9), row_whole (l11 _ _ r9), ?_⟩
    refine (callD (inter_spec (hx10.le (del1_mono l11)) (h1.beside lG1 gG1) ((Sx.tv hvn hn).f2 k1 hn)) q11).mono ?_
    rintro _ F12 ⟨u2, rfl, ⟨G2, h2, lG2, gG2⟩, l12, q12⟩
    have k2 := (Sx.tv hvn hn).ap2 (o := oAnd) k1
    refine ⟨_, rfl, row_whole (l12 _ _ (l11 _ _ r9)), ?_⟩
    refine (callX (ih (v + 1) k (by omega) (by omega) (del1 F12 b8) sl l (hr.le (le_del1 (l10.trans (l11.trans l12)) hb8))) q12).mono ?_
    rintro _ F13 ⟨u3, t3, rfl, k3, ⟨G3, h3, lG3, gG3⟩, l13, q13⟩
    refine ⟨_, rfl, row_whole (l13 _ _ (l12 _ _ (l11 _ _ r9))), ?_⟩
    have kx := (Sx.tv hvn hn).ap2 (o := oXor) (Sx.leaf n true)
    refine (callD (minus_spec (h3.beside lG3 gG3) (hx10.le (del1_mono (l11.trans (l12.trans l13)))) ((Sx.tv hvn hn).f2 (Sx.leaf n true) hn) (k3.f2 kx hn)) q13).mono ?_
    rintro _ F14 ⟨u4, rfl, ⟨G4, h4, lG4, gG4⟩, l14, q14⟩
    have k4 := k3.ap2 (o := oAnd) kx
    refine ⟨_, rfl, ?_⟩
    refine (callD (union_spec ((h2.beside lG2 gG2).le (del1_mono (l13.trans l14))) (h4.beside lG4 gG4) (k2.f2 k4 hn)) q14).mono ?_
    rintro _ F15 ⟨u5, rfl, ⟨G5, h5, lG5, gG5⟩, l15, q15⟩
    refine ⟨_, rfl, ?_⟩
    exact ret2 (K := fun vres F' => ∃ u t, Value.agg vres = .agg u ∧ Sx n t ∧ DV F' u (dia t) ∧ F.le F') h5 q15 rfl ⟨_, _, rfl, k2.ap2 k4, h5.le (le_set_new lG5 gG5), le_set_new (l10.trans (l11.trans (l12.trans (l13.trans (l14.trans l15))))) hb8⟩
theorem rmade_spec {n : Nat} (hn : n ≤ 6) {F : PH} {sl : Sl} {l : List Int} (hr : RdS F sl 1 (l.map (Value.int .u8))) : Spec prog 59 #[sl.v, vi n] F fun r F' => ∃ u t, r = .agg u ∧ Sx n t ∧ DV F' u (dia t) ∧ F.le F' := by
  refine c59 ?_
  unfold b59
  intro b4 hb4
  refine atI ?_
  have l4 := le_set_fresh (.cells #[Value.slice none 0 0, Value.int .i64 0] 28) hb4
  have q4 := set_eq F b4 (.cells #[Value.slice none 0 0, Value.int .i64 0] 28)
  generalize F.set b4 (.cells #[Value.slice none 0 0, Value.int .i64 0] 28) = F4 at *
  have e : max (0 : Int) (min (n : Int) 6) = (n : Int) := by omega
  rw [e]
  refine (callX (table_spec hn n 0 0 (by omega) (by simp) (del1 F4 b4) sl l (hr.le (le_del1 l4 hb4))) q4).mono ?_
  rintro _ F5 ⟨u, t, rfl, kt, ⟨G, hu, lG, gG⟩, l5, q5⟩
  refine ⟨_, rfl, ?_⟩
  exact ret2 (K := fun vres F' => ∃ u t, Value.agg vres = .agg u ∧ Sx n t ∧ DV F' u (dia t) ∧ F.le F') hu q5 rfl ⟨_, _, rfl, kt, hu.le (le_set_new lG gG), le_set_new (l4.trans l5) hb4⟩

/-- A set: its table and its number of conditions. -/
structure SetV (F : PH) (v : Array Value) (n : Int) : Prop where
  ex : ∃ (sl : Sl) (l : List Int), v = #[sl.v, .int .u8 n] ∧ RdS F sl 1 (l.map (Value.int .u8))
  lo : 0 ≤ n
  hi : n ≤ 255
theorem SetV.le {F G : PH} {v : Array Value} {n : Int} (h : SetV F v n) (hl : F.le G) : SetV G v n := by
  obtain ⟨⟨sl, l, h1, h2⟩, h3, h4⟩ := h
  exact ⟨⟨sl, l, h1, h2.le hl⟩, h3, h4⟩
theorem SetV.size {F : PH} {v : Array Value} {n : Int} (h : SetV F v n) : v.size = 2 := by
  obtain ⟨⟨sl, l, rfl, _⟩, _, _⟩ := h
  rfl
def nOf (n : Int) : Nat := (n % 7).toNat
theorem nOf_le (n : Int) : nOf n ≤ 6 := by unfold nOf; omega
theorem size_spec {F : PH} {v : Array Value} {n : Int} (h : SetV F v n) : Spec prog 18 #[.agg v] F fun r F' => r = vi (nOf n) ∧ F.le F' := by
  obtain ⟨⟨sl, l, rfl, _⟩, h3, h4⟩ := h
  refine c18 ?_
  unfold b18
  intro b1 hb1
  refine atI ?_
  refine ⟨n, by rw [cell_eq (set_eq _ _ _)]; rfl, ?_, le_set_fresh _ hb1⟩
  have : IntKind.i64.wrap (Int.tmod n 7) = (nOf n : Int) := by
    unfold nOf
    rw [Int.tmod_eq_emod_of_nonneg h3, w64_eq (by omega) (by omega)]
    omega
  rw [this]
theorem made_spec {F : PH} {v : Array Value} {n : Int} (h : SetV F v n) : Spec prog 16 #[.agg v] F fun r F' => ∃ u t, r = .agg u ∧ Sx (nOf n) t ∧ DV F' u (dia t) ∧ F.le F' := by
  have h' := h
  obtain ⟨⟨sl, l, rfl, hr⟩, h3, h4⟩ := h
  refine c16 ?_
  unfold b16
  intro b1 hb1
  refine atI ?_
  have l1 := le_set_fresh (.cells #[sl.v, .int .u8 n] 24) hb1
  have q1 := set_eq F b1 (.cells #[sl.v, .int .u8 n] 24)
  generalize F.set b1 (.cells #[sl.v, .int .u8 n] 24) = F1 at *
  intro b2 hb2
  refine atI ?_
  have f2 : F b2 = none := le_none l1 hb2
  have lx := le_set_fresh (.cells #[Value.slice none 0 0, Value.int .i64 0] 28) hb2
  have q2 := set_eq F1 b2 (.cells #[Value.slice none 0 0, Value.int .i64 0] 28)
  replace q1 := lx _ _ q1
  have l2 := l1.trans lx
  clear lx
  generalize F1.set b2 (.cells #[Value.slice none 0 0, Value.int .i64 0] 28) = F2 at *
  refine ⟨sl, by rw [cell_eq q1]; rfl, _, rfl, row_whole q1, ?_⟩
  refine (size_spec (h'.le l2)).mono ?_
  rintro _ F3 ⟨rfl, lx⟩
  replace q1 := lx _ _ q1
  replace q2 := lx _ _ q2
  replace l2 := l2.trans lx
  refine ⟨_, rfl, by rw [cell_eq q1]; rfl, ?_⟩
  refine (callX (rmade_spec (F := del1 F3 b2) (nOf_le n) (hr.le (le_del1 l2 f2))) q2).mono ?_
  rintro _ F5 ⟨u, t, rfl, kt, ⟨G, hu, lG, gG⟩, l5, q5⟩
  refine ⟨_, rfl, ?_⟩
  exact ret2 (K := fun vres F' => ∃ u t, Value.agg vres = .agg u ∧ Sx (nOf n) t ∧ DV F' u (dia t) ∧ F.le F') hu q5 rfl ⟨_, _, rfl, kt, hu.le (le_set_new lG gG), le_set_new (l2.trans l5) f2⟩
end Go.Proofs.Ytafojmoeaneedaa
