/-
  What is printed is read again.
-/
import Derived.Test.YtnjcgpihfmklfaaDoorQg
namespace Go.Proofs.YtnjcgpihfmklfaaDoor
open Go
set_option maxRecDepth 10000
def Sits (c : Nat → Nat) (i : Nat) (s : List Nat) : Prop := ∀ k x, s[k]? = some x → c (i + k) = x
theorem Sits.app {c : Nat → Nat} {i : Nat} {s u : List Nat} (h : Sits c i (s ++ u)) : Sits c i s ∧ Sits c (i + s.length) u := by
 constructor
 ·intro k x hk
  refine h k x ?_
  rw [List.getElem?_append_left (List.getElem?_eq_some_iff.1 hk).1]
  exact hk
 ·intro k x hk
  rw [Nat.add_assoc]
  refine h (s.length + k) x ?_
  rw [List.getElem?_append_right (by omega), Nat.add_sub_cancel_left]
  exact hk
theorem Sits.cons {c : Nat → Nat} {i x : Nat} {s : List Nat} (h : Sits c i (x :: s)) : c i = x ∧ Sits c (i + 1) s := by
 refine ⟨h 0 x rfl, fun k y hk => ?_⟩
 rw [Nat.add_assoc, Nat.add_comm 1 k]
 exact h (k + 1) y (by simpa using hk)
inductive Wr : Nat → Pat → List Nat → Prop where
 | emp : Wr 3 .emp [40, 41]
 | rng {lo hi : Nat} : lo < hi → hi < 256 → Wr 3 (.rng lo hi) (91 :: chS lo ++ (45 :: chS hi ++ [93]))
 | one {b : Nat} : b < 256 → Wr 3 (.rng b b) (chS b)
 | rep {x : Pat} {s : List Nat} : Wr 3 x s → Wr 3 (.rep x) (s ++ [42])
 | par {t : Pat} {s : List Nat} : Wr 1 t s → Wr 3 t (40 :: s ++ [41])
 | fac {t : Pat} {s : List Nat} : Wr 3 t s → Wr 2 t s
 | seq {x y : Pat} {s u : List Nat} : Wr 2 x s → Wr 3 y u → Wr 2 (.seq x y) (s ++ u)
 | sqn {t : Pat} {s : List Nat} : Wr 2 t s → Wr 1 t s
 | alt {x y : Pat} {s u : List Nat} : Wr 1 x s → Wr 2 y u → Wr 1 (.alt x y) (s ++ 124 :: u)
theorem Wr.par' {t : Pat} {p : Bool} (h3 : p = false → Wr 3 t t.pr) (h1 : Wr 1 t t.pr) : Wr 3 t (Pat.par p t.pr) := by
 unfold Pat.par
 split
 ·exact .par h1
 ·rename_i h
  exact h3 (by simpa using h)
theorem Wr.par2 {t : Pat} {p : Bool} (h2 : p = false → Wr 2 t t.pr) (h1 : Wr 1 t t.pr) : Wr 2 t (Pat.par p t.pr) := by
 unfold Pat.par
 split
 ·exact .fac (.par h1)
 ·rename_i h
  exact h2 (by simpa using h)
theorem pr_wr : ∀ t : Pat, t.byt → Wr 1 t t.pr ∧ (2 ≤ t.level → Wr 2 t t.pr) ∧ (3 ≤ t.level → Wr 3 t t.pr)
 | .emp, _ => ⟨.sqn (.fac .emp), fun _ => .fac .emp, fun _ => .emp⟩
 | .rng lo hi, h => by
  have : Wr 3 (.rng lo hi) (Pat.rng lo hi).pr := by
   have h1 := h.1
   have h2 := h.2
   unfold Pat.pr
   split
   ·rename_i hl
    exact .rng hl (by omega)
   ·have e : hi = lo := by omega
    subst e
    exact .one (by omega)
  exact ⟨.sqn (.fac this), fun _ => .fac this, fun _ => this⟩
 | .seq x y, h => by
  obtain ⟨x1, x2, x3⟩ := pr_wr x h.1
  obtain ⟨y1, y2, y3⟩ := pr_wr y h.2
  have : Wr 2 (.seq x y) (Pat.seq x y).pr := .seq (.par2 (fun e => x2 (by simpa using e)) x1) (.par' (fun e => y3 (by simpa using e)) y1)
  exact ⟨.sqn this, fun _ => this, fun h => by simp [Pat.level] at h⟩
 | .alt x y, h => by
  obtain ⟨x1, x2, x3⟩ := pr_wr x h.1
  obtain ⟨y1, y2, y3⟩ := pr_wr y h.2
  exact ⟨.alt x1 (.par2 (fun e => y2 (by simpa using e)) y1), fun h => by simp [Pat.level] at h, fun h => by simp [Pat.level] at h⟩
 | .rep x, h => by
  obtain ⟨x1, x2, x3⟩ := pr_wr x h
  have : Wr 3 (.rep x) (Pat.rep x).pr := .rep (.par' (fun e => x3 (by simpa using e)) x1)
  exact ⟨.sqn (.fac this), fun _ => .fac this, fun _ => this⟩
theorem hexV_hexD {k : Nat} (h : k < 16) : hexV (hexD k) = some k := by
 unfold hexV hexD
 split
 ·rw [if_pos (by omega)]
  congr 1
  omega
 ·rw [if_neg (by omega), if_pos (by omega)]
  congr 1
  omega
theorem chS_first (b : Nat) : ∃ x r, chS b = x :: r ∧ x ≠ 91 ∧ x ≠ 40 ∧ x ≠ 41 ∧ x ≠ 42 ∧ x ≠ 124 := by
 unfold chS
 split
 ·rename_i h
  have := h
  unfold plainB at this
  simp only [Bool.and_eq_true, Bool.not_eq_true', Bool.or_eq_false_iff, beq_eq_false_iff_ne, decide_eq_true_eq] at this
  exact ⟨b, [], rfl, by omega, by omega, by omega, by omega, by omega⟩
 ·exact ⟨92, _, rfl, by omega, by omega, by omega, by omega, by omega⟩
theorem chrP_chS {c : Nat → Nat} {i b : Nat} (hb : b < 256) (h : Sits c i (chS b)) : chrP c i = some (b, i + (chS b).length) := by
 unfold chrP
 unfold chS at h ⊢
 by_cases hp : plainB b = true
 ·rw [if_pos hp] at h ⊢
  have e := h.cons.1
  rw [e, if_pos hp]
  rfl
 ·rw [if_neg hp] at h ⊢
  obtain ⟨e0, h⟩ := h.cons
  obtain ⟨e1, h⟩ := h.cons
  obtain ⟨e2, h⟩ := h.cons
  obtain ⟨e3, _⟩ := h.cons
  rw [e0, if_neg (by decide), e1, if_pos ⟨rfl, rfl⟩, show i + 2 = i + 1 + 1 from rfl, e2, show i + 3 = i + 1 + 1 + 1 from rfl, e3, hexV_hexD (by omega), hexV_hexD (by omega)]
  simp only [List.length_cons, List.length_nil]
  congr 2
  omega
theorem wr_first {l : Nat} {t : Pat} {s : List Nat} (h : Wr l t s) : ∃ x r, s = x :: r ∧ x ≠ 41 ∧ x ≠ 42 ∧ x ≠ 124 := by
 induction h with
 | emp => exact ⟨40, _, rfl, by omega, by omega, by omega⟩
 | rng _ _ => exact ⟨91, _, rfl, by omega, by omega, by omega⟩
 | @one b _ =>
  obtain ⟨x, r, e, _, _, h1, h2, h3⟩ := chS_first b
  exact ⟨x, r, e, h1, h2, h3⟩
 | rep _ ih =>
  obtain ⟨x, r, rfl, h⟩ := ih
  exact ⟨x, _, rfl, h⟩
 | par _ _ => exact ⟨40, _, rfl, by omega, by omega, by omega⟩
 | fac _ ih => exact ih
 | seq _ _ ih _ =>
  obtain ⟨x, r, rfl, h⟩ := ih
  exact ⟨x, _, rfl, h⟩
 | sqn _ ih => exact ih
 | alt _ _ ih _ =>
  obtain ⟨x, r, rfl, h⟩ := ih
  exact ⟨x, _, rfl, h⟩
def Rd1 (n : Nat) (c : Nat → Nat) (t : Pat) (i L : Nat) : Prop := c (i + L) ≠ 42 → (i + L < n → c (i + L) = 124 ∨ c (i + L) = 41) → ∃ d, d ≤ L ∧ ∀ f, 8 * L + 4 ≤ f + d → altsP n c (f + d) i = altL n c f t (i + L)
def Rd2 (n : Nat) (c : Nat → Nat) (t : Pat) (i L : Nat) : Prop := c (i + L) ≠ 42 → ∃ d, d ≤ L ∧ ∀ f, 8 * L + 2 ≤ f + d → seqP n c (f + d) i = seqL n c f t (i + L)
def Rd3 (n : Nat) (c : Nat → Nat) (t : Pat) (i L : Nat) : Prop := ∀ f, 8 * L ≤ f → ∃ a m, atomP n c f i = some (a, m) ∧ m ≤ i + L ∧ ∀ K, i + L - m ≤ K → starsP c K a m = starsP c (K - (i + L - m)) t (i + L)
def RdW (n : Nat) (c : Nat → Nat) (l : Nat) (t : Pat) (s : List Nat) : Prop := ∀ i, Sits c i s → i + s.length ≤ n → (l = 1 → Rd1 n c t i s.length) ∧ (l = 2 → Rd2 n c t i s.length) ∧ (l = 3 → Rd3 n c t i s.length)
section
variable {n : Nat} {c : Nat → Nat}
theorem Rd3.repe {t : Pat} {i L : Nat} (h : Rd3 n c t i L) (hn : i + L ≤ n) (h42 : c (i + L) ≠ 42) {f : Nat} (hf : 8 * L + 1 ≤ f) : repeP n c f i = some (t, i + L) := by
 obtain ⟨f, rfl⟩ : ∃ f', f = f' + 1 := ⟨f - 1, by omega⟩
 obtain ⟨a, m, h1, h2, h3⟩ := h f (by omega)
 unfold repeP
 rw [h1]
 simp only
 rw [h3 _ (by omega)]
 cases n - m - (i + L - m) with
 | zero => rfl
 | succ k => unfold starsP; rw [if_neg h42]
theorem seqL_stop {t : Pat} {m f : Nat} (h : m < n → c m = 124 ∨ c m = 41) : seqL n c (f + 1) t m = some (t, m) := by
 unfold seqL
 rw [if_neg]
 rintro ⟨h1, h2, h3⟩
 rcases h h1 with e | e
 ·exact h2 e
 ·exact h3 e
theorem seqL_go {t u : Pat} {m k f : Nat} (hm : m < n ∧ c m ≠ 124 ∧ c m ≠ 41) (h : repeP n c f m = some (u, k)) : seqL n c (f + 1) t m = seqL n c f (.seq t u) k := by
 conv => lhs; unfold seqL
 rw [if_pos hm, h]
theorem altL_go {t u : Pat} {m k f : Nat} (hm : c m = 124) (h : seqP n c f (m + 1) = some (u, k)) : altL n c (f + 1) t m = altL n c f (.alt t u) k := by
 conv => lhs; unfold altL
 rw [if_pos hm, h]
theorem Rd2.seq {t : Pat} {i L : Nat} (h : Rd2 n c t i L) (h42 : c (i + L) ≠ 42) (hs : i + L < n → c (i + L) = 124 ∨ c (i + L) = 41) {f : Nat} (hf : 8 * L + 2 ≤ f) : seqP n c f i = some (t, i + L) := by
 obtain ⟨d, hd, h⟩ := h h42
 have := h (f - d) (by omega)
 rw [show f - d + d = f by omega] at this
 rw [this]
 obtain ⟨k, hk⟩ : ∃ k, f - d = k + 1 := ⟨f - d - 1, by
  rcases Nat.eq_zero_or_pos L with h0 | h0 <;> omega⟩
 rw [hk]
 exact seqL_stop hs
theorem Rd1.alt {t : Pat} {i L : Nat} (h : Rd1 n c t i L) (h42 : c (i + L) ≠ 42) (h124 : c (i + L) ≠ 124) (hs : i + L < n → c (i + L) = 124 ∨ c (i + L) = 41) {f : Nat} (hf : 8 * L + 4 ≤ f) : altsP n c f i = some (t, i + L) := by
 obtain ⟨d, hd, h⟩ := h h42 hs
 have := h (f - d) (by omega)
 rw [show f - d + d = f by omega] at this
 rw [this]
 obtain ⟨k, hk⟩ : ∃ k, f - d = k + 1 := ⟨f - d - 1, by
  rcases Nat.eq_zero_or_pos L with h0 | h0 <;> omega⟩
 rw [hk]
 unfold altL
 rw [if_neg h124]
theorem wr_read {l : Nat} {t : Pat} {s : List Nat} (h : Wr l t s) : RdW n c l t s := by
 induction h with
 | emp =>
  intro i hs hn
  refine ⟨fun h => (by cases h), fun h => (by cases h), fun _ f hf => ?_⟩
  obtain ⟨e0, hs⟩ := hs.cons
  obtain ⟨e1, _⟩ := hs.cons
  obtain ⟨f, rfl⟩ : ∃ f', f = f' + 1 := ⟨f - 1, by simp at hf; omega⟩
  refine ⟨.emp, i + 2, ?_, Nat.le_refl _, fun K _ => by simp⟩
  unfold atomP
  rw [e0, if_neg (by decide), if_pos rfl, e1, if_pos rfl]
 | @rng lo hi hl hh =>
  intro i hs hn
  refine ⟨fun h => (by cases h), fun h => (by cases h), fun _ f hf => ?_⟩
  obtain ⟨e0, hs⟩ := hs.cons
  obtain ⟨h1, hs⟩ := hs.app
  obtain ⟨e1, hs⟩ := hs.cons
  obtain ⟨h2, hs⟩ := hs.app
  obtain ⟨e2, _⟩ := hs.cons
  obtain ⟨f, rfl⟩ : ∃ f', f = f' + 1 := ⟨f - 1, by simp at hf; omega⟩
  refine ⟨.rng lo hi, i + (91 :: chS lo ++ (45 :: chS hi ++ [93])).length, ?_, Nat.le_refl _, fun K _ => by simp⟩
  unfold atomP
  rw [e0, if_pos rfl, chrP_chS (by omega) h1]
  simp only
  rw [e1, if_pos rfl, chrP_chS hh h2]
  simp only
  rw [e2, if_pos ⟨rfl, by omega⟩]
  simp only [List.length_append, List.length_cons, List.length_nil]
  congr 2
  omega
 | @one b hb =>
  intro i hs hn
  refine ⟨fun h => (by cases h), fun h => (by cases h), fun _ f hf => ?_⟩
  obtain ⟨x, r, e, h1, h2, _⟩ := chS_first b
  have e0 : c i = x := hs 0 x (by rw [e]; rfl)
  have hl : 0 < (chS b).length := by rw [e]; simp
  obtain ⟨f, rfl⟩ : ∃ f', f = f' + 1 := ⟨f - 1, by omega⟩
  refine ⟨.rng b b, i + (chS b).length, ?_, Nat.le_refl _, fun K _ => by simp⟩
  unfold atomP
  rw [e0, if_neg h1, if_neg h2, chrP_chS hb hs]
 | @rep x s hx ih =>
  intro i hs hn
  rw [List.length_append, List.length_singleton] at hn
  refine ⟨fun h => (by cases h), fun h => (by cases h), fun _ f hf => ?_⟩
  rw [List.length_append, List.length_singleton] at hf
  obtain ⟨h1, h2⟩ := hs.app
  have e := h2.cons.1
  obtain ⟨a, m, a1, a2, a3⟩ := (ih i h1 (by omega)).2.2 rfl f (by omega)
  refine ⟨a, m, a1, by rw [List.length_append]; omega, fun K hK => ?_⟩
  rw [List.length_append, List.length_singleton] at hK ⊢
  rw [a3 K (by omega)]
  obtain ⟨k, hk⟩ : ∃ k, K - (i + s.length - m) = k + 1 := ⟨K - (i + s.length - m) - 1, by omega⟩
  rw [hk]
  unfold starsP
  rw [if_pos e]
  have : k = K - (i + (s.length + 1) - m) := by omega
  rw [← this, Nat.add_assoc]
  cases k <;> rfl
 | @par t s ht ih =>
  intro i hs hn
  simp only [List.length_append, List.length_cons, List.length_nil] at hn
  refine ⟨fun h => (by cases h), fun h => (by cases h), fun _ f hf => ?_⟩
  simp only [List.length_append, List.length_cons, List.length_nil] at hf ⊢
  obtain ⟨e0, hs⟩ := hs.cons
  obtain ⟨h1, h2⟩ := hs.app
  have e2 := h2.cons.1
  obtain ⟨x, r, rfl, x1, _, _⟩ := wr_first ht
  have e1 := h1.cons.1
  obtain ⟨f, rfl⟩ : ∃ f', f = f' + 1 := ⟨f - 1, by omega⟩
  have hr := ((ih (i + 1) h1 (by omega)).1 rfl).alt (by rw [e2]; decide) (by rw [e2]; decide) (fun _ => .inr e2) (f := f) (by omega)
  refine ⟨t, i + ((x :: r).length + 1 + 1), ?_, by simp only [List.length_cons]; omega, fun K _ => by simp⟩
  unfold atomP
  rw [e0, if_neg (by decide), if_pos rfl, if_neg (by rw [e1]; exact x1), hr]
  simp only
  rw [e2, if_pos rfl]
  congr 2
  omega
 | @fac t s ht ih =>
  intro i hs hn
  refine ⟨fun h => (by cases h), fun _ h42 => ?_, fun h => (by cases h)⟩
  have h3 := (ih i hs hn).2.2 rfl
  obtain ⟨x, r, hx, _⟩ := wr_first ht
  refine ⟨1, by rw [hx]; simp, fun f hf => ?_⟩
  show seqP n c (f + 1) i = _
  unfold seqP
  rw [h3.repe hn h42 (by omega)]
 | @seq x y s u hx hy ix iy =>
  intro i hs hn
  rw [List.length_append] at hn
  refine ⟨fun h => (by cases h), fun _ h42 => ?_, fun h => (by cases h)⟩
  obtain ⟨h1, h2⟩ := hs.app
  obtain ⟨z, r, hz, z1, z2, z3⟩ := wr_first hy
  have e : c (i + s.length) = z := h2 0 z (by rw [hz]; rfl)
  have hul : 0 < u.length := by rw [hz]; simp
  obtain ⟨d, hd, hf⟩ := (ix i h1 (by omega)).2.1 rfl (by rw [e]; exact z2)
  rw [List.length_append] at h42 ⊢
  have h3 := (iy (i + s.length) h2 (by omega)).2.2 rfl
  refine ⟨d + 1, by omega, fun f hff => ?_⟩
  have := hf (f + 1) (by omega)
  rw [show f + (d + 1) = f + 1 + d by omega, this]
  have hm : i + s.length < n ∧ c (i + s.length) ≠ 124 ∧ c (i + s.length) ≠ 41 := ⟨by omega, by rw [e]; exact z3, by rw [e]; exact z1⟩
  rw [seqL_go hm (h3.repe (by omega) (by rw [Nat.add_assoc]; exact h42) (by omega)), Nat.add_assoc]
 | @sqn t s ht ih =>
  intro i hs hn
  refine ⟨fun _ h42 hst => ?_, fun h => (by cases h), fun h => (by cases h)⟩
  have h2 := (ih i hs hn).2.1 rfl
  obtain ⟨x, r, hx, _⟩ := wr_first ht
  refine ⟨1, by rw [hx]; simp, fun f hf => ?_⟩
  show altsP n c (f + 1) i = _
  unfold altsP
  rw [h2.seq h42 hst (by omega)]
 | @alt x y s u hx hy ix iy =>
  intro i hs hn
  simp only [List.length_append, List.length_cons] at hn
  refine ⟨fun _ h42 hst => ?_, fun h => (by cases h), fun h => (by cases h)⟩
  obtain ⟨h1, h2⟩ := hs.app
  obtain ⟨e, h2⟩ := h2.cons
  obtain ⟨d, hd, hf⟩ := (ix i h1 (by omega)).1 rfl (by rw [e]; decide) (fun _ => .inl e)
  simp only [List.length_append, List.length_cons] at h42 hst ⊢
  have h3 := (iy (i + s.length + 1) h2 (by omega)).2.1 rfl
  have ee : i + s.length + 1 + u.length = i + (s.length + (u.length + 1)) := by omega
  refine ⟨d + 1, by omega, fun f hff => ?_⟩
  have := hf (f + 1) (by omega)
  rw [show f + (d + 1) = f + 1 + d by omega, this]
  rw [altL_go e (h3.seq (by rw [ee]; exact h42) (by rw [ee]; exact hst) (by omega)), ee]
end
theorem wr_parse {t : Pat} {st : ByteArray} {s : List Nat} (h : Wr 1 t s) (hs : st.size = s.length) (hc : ∀ k x, s[k]? = some x → cb st k = x) : parseT st = some t := by
 have hr := (wr_read (n := st.size) (c := cb st) h 0 (fun k x hk => by rw [Nat.zero_add]; exact hc k x hk) (by omega)).1 rfl
 have e0 : cb st (0 + s.length) = 0 := cb_ends st _ (by omega)
 have := hr.alt (by rw [e0]; decide) (by rw [e0]; decide) (fun h => by omega) (f := parseF st) (by unfold parseF; omega)
 unfold parseT
 rw [this]
 simp only
 rw [if_pos (by omega)]
end Go.Proofs.YtnjcgpihfmklfaaDoor
