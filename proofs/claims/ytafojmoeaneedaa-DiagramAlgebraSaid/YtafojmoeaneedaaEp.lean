/-
  The diagrams: Count.
-/
import Derived.Test.YtafojmoeaneedaaEo
namespace Go.Proofs.Ytafojmoeaneedaa
open Go Go.Proofs.Try Tr
set_option maxRecDepth 10000

theorem lm_length : ∀ (k n : Nat), n < 4294967296 ^ k → (lm n).length ≤ k
  | 0, n, h => by
    have : n = 0 := by simpa using h
    subst this
    rw [lm_zero]
    exact Nat.le_refl _
  | k + 1, n, h => by
    by_cases h0 : n = 0
    · subst h0; rw [lm_zero]; exact Nat.zero_le _
    · rw [lm_pos h0, List.length_cons]
      have := lm_length k (n / 4294967296) (Nat.div_lt_of_lt_mul (by rw [Nat.pow_succ, Nat.mul_comm] at h; exact h))
      omega
theorem lm_small {n : Nat} (h : n ≤ 18446744073709551616) : (lm n).length ≤ 1000 := by
  have := lm_length 3 n (by omega)
  omega

/-- The configurations over the conditions from that of a tree on to n-1. -/
def cv (n : Nat) : Tr → Nat
  | leaf b => if b then 1 else 0
  | node v l h => cv n l * 2 ^ (min n l.top - (v + 1)) + cv n h * 2 ^ (min n h.top - (v + 1))
def countT (n : Nat) (t : Tr) : Nat := cv n t * 2 ^ (min n t.top)
/-- All conditions of a tree are below n. -/
def below (n : Nat) : Tr → Prop
  | leaf _ => True
  | node v l h => v < n ∧ below n l ∧ below n h
theorem cv_le {n : Nat} (hn : n ≤ 64) : ∀ (t : Tr), t.ok → below n t → cv n t ≤ 2 ^ (n - min n t.top)
  | leaf b, _, _ => by
    have : n - min n (leaf b).top = 0 := by simp only [top]; omega
    rw [this]
    cases b <;> simp [cv]
  | node v l h, ⟨h0, h1, h2, h3, h4, h5⟩, ⟨b0, b1, b2⟩ => by
    have il := cv_le hn l h4 b1
    have ih := cv_le hn h h5 b2
    have key : ∀ (x m : Nat), v < m → x ≤ 2 ^ (n - min n m) → x * 2 ^ (min n m - (v + 1)) ≤ 2 ^ (n - (v + 1)) := fun x m hm hx => by
      calc x * 2 ^ (min n m - (v + 1)) ≤ 2 ^ (n - min n m) * 2 ^ (min n m - (v + 1)) := Nat.mul_le_mul_right _ hx
        _ = 2 ^ (n - (v + 1)) := by rw [← Nat.pow_add]; congr 1; omega
    have k1 := key _ _ h1 il
    have k2 := key _ _ h2 ih
    have e : n - min n (node v l h).top = n - (v + 1) + 1 := by simp only [top]; omega
    rw [e, Nat.pow_succ]
    simp only [cv]
    omega
theorem two64 {m : Nat} (h : m ≤ 64) : 2 ^ m ≤ 18446744073709551616 := Nat.pow_le_pow_right (by decide) h

structure CE (E : PH) (b2 b3 b9 b10 g n : Nat) (t : Tr) (len : Nat) : Prop where
  c3 : E.cell ⟨b3, 0, none⟩ = some (vi n)
  c2 : ∃ w, E.row ⟨b2, 0, none⟩ w ∧ DV E w (dia t)
  c9 : E.cell ⟨b9, 0, none⟩ = some (Sl.v ⟨some ⟨g, 0, none⟩, len, len⟩)
  c10 : E.cell ⟨b10, 0, none⟩ = some (.func (.func 74) #[] #[.pointer (some ⟨b3, 0, none⟩), .pointer (some ⟨b2, 0, none⟩)])
theorem CE.le {E F : PH} {b2 b3 b9 b10 g n : Nat} {t : Tr} {len : Nat} (h : CE E b2 b3 b9 b10 g n t len) (hl : E.le F) : CE F b2 b3 b9 b10 g n t len := by
  obtain ⟨h1, ⟨w, h2, h3⟩, h4, h5⟩ := h
  exact ⟨le_cell hl h1, ⟨w, row_le hl h2, h3.le hl⟩, le_cell hl h4, le_cell hl h5⟩
/-- The counts so far. -/
structure CS (E F : PH) (g n : Nat) (T : List Tr) (k : Nat) (Ls : List Sl) : Prop where
  le : E.le F
  ng : E g = none
  hg : F g = some (.cells (Ls.map Sl.v).toArray 57)
  len : Ls.length = T.length + 2
  nv : ∀ j s, j < k + 2 → Ls[j]? = some s → NV (del1 F g) s (cv n (tr T j))
theorem CS.upto {E F G : PH} {g n : Nat} {T : List Tr} {k : Nat} {Ls : List Sl} (h : CS E F g n T k Ls) (hl : F.le G) : CS E G g n T k Ls :=
  ⟨h.le.trans hl, h.ng, hl _ _ h.hg, h.len, fun j s hj hs => (h.nv j s hj hs).le fun x o hx => by
    have hne : x ≠ g := fun e => by rw [e, del1_1] at hx; cases hx
    rw [del1_of hne] at hx ⊢
    exact hl _ _ hx⟩
theorem cb74 : callableB prog 74 = true := by kernel_rfl
/-- Addition, kept out of one block. -/
theorem addA {F : PH} {x : Nat} {o : Obj} {sx sy : Sl} {a b : Nat} (hx : F x = some o) (ha : NV (del1 F x) sx a) (hb : NV (del1 F x) sy b) (la : a ≤ 18446744073709551616) (lb : b ≤ 18446744073709551616) :
    Spec prog 33 #[sx.v, sy.v] F fun r F' => ∃ s', r = .tuple #[s'.v, vi 0] ∧ NV (del1 F' x) s' (a + b) ∧ F.le F' ∧ F' x = some o :=
  (Spec.avoid (add_spec ha hb (lm_small la) (lm_small lb)) hx).mono fun r F' ⟨G, ⟨s', hr, hn, lg⟩, lG, q, gx⟩ =>
    ⟨s', hr, hn.le (fun y ob hy => by rw [del1_of (fun e => by rw [e, gx] at hy; cases hy)]; exact lG _ _ hy), le_avoid lg lG q hx, q⟩
theorem del1_mono {F G : PH} {x : Nat} (h : F.le G) : (del1 F x).le (del1 G x) := fun y o hy => by
  have hne : y ≠ x := fun e => by rw [e, del1_1] at hy; cases hy
  rw [del1_of hne] at hy ⊢
  exact h _ _ hy

section
variable {E F : PH} {b2 b3 b9 b10 g n : Nat} {t : Tr} {k : Nat} {Ls : List Sl}
theorem doubled_spec (ht : t.ok) (hlt : (subs t).length ≤ 4096) (hn : n ≤ 64) (he : CE E b2 b3 b9 b10 g n t ((subs t).length + 2)) (hs : CS E F g n (subs t) k Ls) {u : Tr} (hu : inn (subs t) u) (hbu : below n u)
    (hk : num (subs t) u < k + 2) {from_ : Nat} (hfr : from_ ≤ min n u.top) :
    Spec prog 75 #[vi (num (subs t) u), vi from_, .pointer (some ⟨b9, 0, none⟩), .pointer (some ⟨b10, 0, none⟩)] F fun r F' =>
      ∃ s', r = .tuple #[s'.v, vi 0] ∧ NV (del1 F' g) s' (cv n u * 2 ^ (min n u.top - from_)) ∧ F.le F' := by
  have hT := subs_cl ht
  have huo := hT.inn_ok hu
  have hnl := num_le hu
  have hlen := hs.len
  refine c75 ?_
  unfold b75
  have hlt2 : num (subs t) u < Ls.length := by omega
  have hget := List.getElem?_eq_getElem hlt2
  have hnv := hs.nv _ _ hk hget
  rw [tr_num hT hu] at hnv
  refine ⟨_, rfl, _, le_cell hs.le he.c9, _, rfl, by omega, by simp only; omega, Ls[num (subs t) u], by simp only [add_mk]; rw [cell_eq hs.hg]; simp [hget], _, rfl, _, le_cell hs.le he.c10, _, _, _, rfl, cb74, ?_⟩
  obtain ⟨w, hw1, hw2⟩ := he.c2
  have hplace : Spec prog 74 #[vi (num (subs t) u), .pointer (some ⟨b3, 0, none⟩), .pointer (some ⟨b2, 0, none⟩)] F fun r F' => r = vi (min (n : Int) (u.top : Int)) ∧ F.le F' := by
    refine c74 ?_
    unfold b74
    refine ⟨_, rfl, _, le_cell hs.le he.c3, _, rfl, w, hw2.size, row_le hs.le hw1, ?_⟩
    refine (level_spec (hw2.le hs.le) (List.prefix_refl _) hu (by show Fit ((brs (subs t)).length + 2); rw [brs_length]; omega)).mono ?_
    rintro _ F1 ⟨rfl, l1⟩
    exact ⟨_, rfl, le_cell l1 (le_cell hs.le he.c3), rfl, l1⟩
  refine hplace.mono ?_
  rintro _ F1 ⟨rfl, l1⟩
  refine ⟨_, rfl, ?_⟩
  have hs1 := hs.upto l1
  have hnv1 := hnv.le (del1_mono (x := g) l1)
  have hwr : IntKind.i64.wrap (min (n : Int) (u.top : Int) - (from_ : Int)) = ((min n u.top - from_ : Nat) : Int) := by
    rw [w64_eq (by omega) (by omega)]; omega
  have hcv := cv_le hn u huo hbu
  refine ⟨fun m out i F' => ∃ q : Nat, i = q ∧ q ≤ min n u.top - from_ ∧ m = min n u.top - from_ - q ∧ NV (del1 F' g) out (cv n u * 2 ^ q) ∧ F1.le F', min n u.top - from_, ⟨0, rfl, by omega, by omega, by simpa using hnv1, PH.le_rfl⟩, ?_⟩
  rintro m out i F2 ⟨q, rfl, hq, rfl, ho, l2⟩
  unfold b75L1
  rw [hwr]
  refine ⟨fun hlt => ?_, fun hge => ?_⟩
  · have hval : cv n u * 2 ^ q ≤ 18446744073709551616 := by
      refine Nat.le_trans (Nat.mul_le_mul_right _ hcv) ?_
      rw [← Nat.pow_add]
      exact two64 (by omega)
    refine (addA (l2 _ _ hs1.hg) ho ho hval hval).mono ?_
    rintro _ F3 ⟨s', rfl, h1, l3, _⟩
    refine ⟨_, _, rfl, fun h => absurd rfl h, fun _ => ⟨min n u.top - from_ - (q + 1), by omega, q + 1, w64s (by omega), by omega, rfl, ?_, l2.trans l3⟩⟩
    rw [Nat.pow_succ, ← Nat.mul_assoc, Nat.mul_two]
    exact h1
  · unfold b75j1
    have hq' : q = min n u.top - from_ := by omega
    subst hq'
    exact ⟨_, rfl, ho, l1.trans l2⟩
end
end Go.Proofs.Ytafojmoeaneedaa
