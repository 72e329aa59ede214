/-
  Longest and Matches.
-/
import Derived.Test.YtnjcgpihfmklfaaDoorQt
import Derived.Test.YtnjcgpihfmklfaaDoorQv
import Derived.Test.YtnjcgpihfmklfaaDoorGh
namespace Go.Proofs.YtnjcgpihfmklfaaDoor
open Go Go.Proofs.Tryd
set_option maxRecDepth 10000
def Nx (acc fol : Nat → Nat → Prop) : (Nat → Prop) → List Nat → Nat → Prop
 | S, [], j => S j
 | S, b :: w, j => Nx acc fol (fun j => ∃ i, S i ∧ acc i b ∧ fol i j) w j
section
variable {acc fol : Nat → Nat → Prop} {e : Nat → Prop}
theorem Nx_append : ∀ (w u : List Nat) (S : Nat → Prop) (j : Nat), Nx acc fol S (w ++ u) j ↔ Nx acc fol (Nx acc fol S w) u j
 | [], u, S, j => Iff.rfl
 | b :: w, u, S, j => Nx_append w u _ j
theorem Nx_snoc (w : List Nat) (b : Nat) (S : Nat → Prop) (j : Nat) : Nx acc fol S (w ++ [b]) j ↔ ∃ i, Nx acc fol S w i ∧ acc i b ∧ fol i j := by rw [Nx_append]; rfl
theorem Nx_none : ∀ (w : List Nat) (S : Nat → Prop), (∀ j, ¬ S j) → ∀ j, ¬ Nx acc fol S w j
 | [], S, h, j => h j
 | b :: w, S, h, j => Nx_none w _ (fun j ⟨i, hi, _⟩ => h i hi) j
theorem Pth_Nx : ∀ (w : List Nat) (b : Nat) (S : Nat → Prop), (∃ i, S i ∧ Pth acc fol e i (w ++ [b])) ↔ ∃ j, Nx acc fol S w j ∧ acc j b ∧ e j
 | [], b, S => by
  constructor
  ·rintro ⟨i, h1, h2, ⟨_, h3⟩ | ⟨j, _, h3⟩⟩
   ·exact ⟨i, h1, h2, h3⟩
   ·exact h3.elim
  ·rintro ⟨i, h1, h2, h3⟩
   exact ⟨i, h1, h2, .inl ⟨rfl, h3⟩⟩
 | c :: w, b, S => by
  have ih := Pth_Nx w b (fun j => ∃ i, S i ∧ acc i c ∧ fol i j)
  show _ ↔ ∃ j, Nx acc fol (fun j => ∃ i, S i ∧ acc i c ∧ fol i j) w j ∧ acc j b ∧ e j
  rw [← ih]
  constructor
  ·rintro ⟨i, h1, h2, ⟨h3, _⟩ | ⟨j, h3, h4⟩⟩
   ·exact absurd h3 (by simp)
   ·exact ⟨j, ⟨i, h1, h2, h3⟩, h4⟩
  ·rintro ⟨j, ⟨i, h1, h2, h3⟩, h4⟩
   exact ⟨i, h1, h2, .inr ⟨j, h3, h4⟩⟩
end
def accN (l : List Nd) (i b : Nat) : Prop := ∃ x, l[i]? = some x ∧ x.lo ≤ (b : Int) ∧ (b : Int) ≤ x.hi
theorem tree_fits {l : List Nd} (hG : GoodL l) {i : Nat} {t : Lt} {ns : List Nat} (h : TreeAt l i t ns) : t.fits (accN l) := by
 induction h with
 | emp => trivial
 | @rng i lo hi x hx hk hlo hhi hle h255 =>
  intro b
  constructor
  ·rintro ⟨y, hy, h1, h2⟩
   rw [hx] at hy
   cases hy
   omega
  ·rintro ⟨h1, h2⟩
   exact ⟨x, hx, by omega, by omega⟩
 | @seq i a b x t u na nb hx hk hxa hxb ht hu it iu =>
  exact ⟨it, iu, fun j h1 h2 => sides hG hx (.inl hk) hxa hxb (tree_up ht j ((tree_mem ht).2 j h1)) (tree_up hu j ((tree_mem hu).2 j h2))⟩
 | @alt i a b x t u na nb hx hk hxa hxb ht hu it iu =>
  exact ⟨it, iu, fun j h1 h2 => sides hG hx (.inr hk) hxa hxb (tree_up ht j ((tree_mem ht).2 j h1)) (tree_up hu j ((tree_mem hu).2 j h2))⟩
 | rep _ _ _ _ it => exact it
abbrev nowP (l : List Nd) (t : Lt) (w : List Nat) : Nat → Prop := Nx (accN l) t.fol t.first w
theorem acc_iff {l : List Nd} {t : Lt} (hf : t.fits (accN l)) (w : List Nat) (b : Nat) : Lg t.pat (w ++ [b]) ↔ ∃ j, nowP l t w j ∧ accN l j b ∧ t.last j := by
 rw [t.places hf _ (by simp)]
 exact Pth_Nx w b t.first
theorem take_snoc {ws : List Nat} {n : Nat} (h : n < ws.length) : ws.take (n + 1) = ws.take n ++ [ws[n]] := by rw [List.take_add_one, List.getElem?_eq_getElem h]; rfl
theorem acc_none {l : List Nd} {t : Lt} (hf : t.fits (accN l)) {ws : List Nat} {n : Nat} (h : n < ws.length) (he : ∀ j, ¬ (nowP l t (ws.take n) j ∧ accN l j ws[n])) {m : Nat} (hm : n < m) (hml : m ≤ ws.length) : ¬ Lg t.pat (ws.take m) := by
 obtain ⟨m, rfl⟩ : ∃ m', m = m' + 1 := ⟨m - 1, by omega⟩
 have hm' : m < ws.length := by omega
 rw [take_snoc hm', acc_iff hf]
 rintro ⟨j, h1, h2, _⟩
 by_cases e : m = n
 ·subst e
  exact he j ⟨h1, h2⟩
 ·have h0 : ∀ j, ¬ nowP l t (ws.take (n + 1)) j := fun j hj => by
   rw [take_snoc h] at hj
   obtain ⟨i, a, b, _⟩ := (Nx_snoc _ _ _ _).1 hj
   exact he i ⟨a, b⟩
  have : ws.take m = ws.take (n + 1) ++ (ws.take m).drop (n + 1) := by
   have := List.take_append_drop (n + 1) (ws.take m)
   rw [List.take_take, show min (n + 1) m = n + 1 by omega] at this
   exact this.symm
  rw [this] at h1
  have h1' := (Nx_append _ _ _ _).1 h1
  exact Nx_none _ _ h0 j h1'
open Classical in
noncomputable def nowB (l : List Nd) (t : Lt) (w : List Nat) : Nat → Bool := fun j => decide (nowP l t w j)
open Classical in
noncomputable def accB (l : List Nd) (b : Nat) : Nat → Bool := fun i => decide (accN l i b)
theorem nowB_iff {l : List Nd} {t : Lt} {w : List Nat} {j : Nat} : nowB l t w j = true ↔ nowP l t w j := by simp [nowB]
theorem accB_iff {l : List Nd} {b i : Nat} : accB l b i = true ↔ accN l i b := by simp [accB]
theorem g19_1 (a0 a1 a2 a3 a4 a5 a6 a7 a8 a9 a10 a11 a12 a13 a14 a15 a16 a17 a18 : Value) : (#[a0, a1, a2, a3, a4, a5, a6, a7, a8, a9, a10, a11, a12, a13, a14, a15, a16, a17, a18] : Array Value)[1]? = some a1 := rfl
theorem g19_2 (a0 a1 a2 a3 a4 a5 a6 a7 a8 a9 a10 a11 a12 a13 a14 a15 a16 a17 a18 : Value) : (#[a0, a1, a2, a3, a4, a5, a6, a7, a8, a9, a10, a11, a12, a13, a14, a15, a16, a17, a18] : Array Value)[2]? = some a2 := rfl
theorem g19_3 (a0 a1 a2 a3 a4 a5 a6 a7 a8 a9 a10 a11 a12 a13 a14 a15 a16 a17 a18 : Value) : (#[a0, a1, a2, a3, a4, a5, a6, a7, a8, a9, a10, a11, a12, a13, a14, a15, a16, a17, a18] : Array Value)[3]? = some a3 := rfl
theorem g19_4 (a0 a1 a2 a3 a4 a5 a6 a7 a8 a9 a10 a11 a12 a13 a14 a15 a16 a17 a18 : Value) : (#[a0, a1, a2, a3, a4, a5, a6, a7, a8, a9, a10, a11, a12, a13, a14, a15, a16, a17, a18] : Array Value)[4]? = some a4 := rfl
theorem g19_5 (a0 a1 a2 a3 a4 a5 a6 a7 a8 a9 a10 a11 a12 a13 a14 a15 a16 a17 a18 : Value) : (#[a0, a1, a2, a3, a4, a5, a6, a7, a8, a9, a10, a11, a12, a13, a14, a15, a16, a17, a18] : Array Value)[5]? = some a5 := rfl
theorem g19_6 (a0 a1 a2 a3 a4 a5 a6 a7 a8 a9 a10 a11 a12 a13 a14 a15 a16 a17 a18 : Value) : (#[a0, a1, a2, a3, a4, a5, a6, a7, a8, a9, a10, a11, a12, a13, a14, a15, a16, a17, a18] : Array Value)[6]? = some a6 := rfl
theorem g19_7 (a0 a1 a2 a3 a4 a5 a6 a7 a8 a9 a10 a11 a12 a13 a14 a15 a16 a17 a18 : Value) : (#[a0, a1, a2, a3, a4, a5, a6, a7, a8, a9, a10, a11, a12, a13, a14, a15, a16, a17, a18] : Array Value)[7]? = some a7 := rfl
theorem g19_8 (a0 a1 a2 a3 a4 a5 a6 a7 a8 a9 a10 a11 a12 a13 a14 a15 a16 a17 a18 : Value) : (#[a0, a1, a2, a3, a4, a5, a6, a7, a8, a9, a10, a11, a12, a13, a14, a15, a16, a17, a18] : Array Value)[8]? = some a8 := rfl
theorem g19_9 (a0 a1 a2 a3 a4 a5 a6 a7 a8 a9 a10 a11 a12 a13 a14 a15 a16 a17 a18 : Value) : (#[a0, a1, a2, a3, a4, a5, a6, a7, a8, a9, a10, a11, a12, a13, a14, a15, a16, a17, a18] : Array Value)[9]? = some a9 := rfl
theorem g19_10 (a0 a1 a2 a3 a4 a5 a6 a7 a8 a9 a10 a11 a12 a13 a14 a15 a16 a17 a18 : Value) : (#[a0, a1, a2, a3, a4, a5, a6, a7, a8, a9, a10, a11, a12, a13, a14, a15, a16, a17, a18] : Array Value)[10]? = some a10 := rfl
theorem g19_11 (a0 a1 a2 a3 a4 a5 a6 a7 a8 a9 a10 a11 a12 a13 a14 a15 a16 a17 a18 : Value) : (#[a0, a1, a2, a3, a4, a5, a6, a7, a8, a9, a10, a11, a12, a13, a14, a15, a16, a17, a18] : Array Value)[11]? = some a11 := rfl
theorem g19_12 (a0 a1 a2 a3 a4 a5 a6 a7 a8 a9 a10 a11 a12 a13 a14 a15 a16 a17 a18 : Value) : (#[a0, a1, a2, a3, a4, a5, a6, a7, a8, a9, a10, a11, a12, a13, a14, a15, a16, a17, a18] : Array Value)[12]? = some a12 := rfl
theorem g19_13 (a0 a1 a2 a3 a4 a5 a6 a7 a8 a9 a10 a11 a12 a13 a14 a15 a16 a17 a18 : Value) : (#[a0, a1, a2, a3, a4, a5, a6, a7, a8, a9, a10, a11, a12, a13, a14, a15, a16, a17, a18] : Array Value)[13]? = some a13 := rfl
theorem g19_14 (a0 a1 a2 a3 a4 a5 a6 a7 a8 a9 a10 a11 a12 a13 a14 a15 a16 a17 a18 : Value) : (#[a0, a1, a2, a3, a4, a5, a6, a7, a8, a9, a10, a11, a12, a13, a14, a15, a16, a17, a18] : Array Value)[14]? = some a14 := rfl
theorem g19_15 (a0 a1 a2 a3 a4 a5 a6 a7 a8 a9 a10 a11 a12 a13 a14 a15 a16 a17 a18 : Value) : (#[a0, a1, a2, a3, a4, a5, a6, a7, a8, a9, a10, a11, a12, a13, a14, a15, a16, a17, a18] : Array Value)[15]? = some a15 := rfl
theorem g19_16 (a0 a1 a2 a3 a4 a5 a6 a7 a8 a9 a10 a11 a12 a13 a14 a15 a16 a17 a18 : Value) : (#[a0, a1, a2, a3, a4, a5, a6, a7, a8, a9, a10, a11, a12, a13, a14, a15, a16, a17, a18] : Array Value)[16]? = some a16 := rfl
theorem mc_get {s : Sl} {P Q : Nat → Bool} {bf n : Nat} {e : Bool} {i : Nat} (hi : i < 8) : (mcells s P Q bf n e)[1 + i]? = some (u64v (wd P i)) ∧ (mcells s P Q bf n e)[9 + i]? = some (u64v (wd Q i)) := by
 have : i = 0 ∨ i = 1 ∨ i = 2 ∨ i = 3 ∨ i = 4 ∨ i = 5 ∨ i = 6 ∨ i = 7 := by omega
 unfold mcells
 rcases this with rfl | rfl | rfl | rfl | rfl | rfl | rfl | rfl
 ·exact ⟨g19_1 _ _ _ _ _ _ _ _ _ _ _ _ _ _ _ _ _ _ _, g19_9 _ _ _ _ _ _ _ _ _ _ _ _ _ _ _ _ _ _ _⟩
 ·exact ⟨g19_2 _ _ _ _ _ _ _ _ _ _ _ _ _ _ _ _ _ _ _, g19_10 _ _ _ _ _ _ _ _ _ _ _ _ _ _ _ _ _ _ _⟩
 ·exact ⟨g19_3 _ _ _ _ _ _ _ _ _ _ _ _ _ _ _ _ _ _ _, g19_11 _ _ _ _ _ _ _ _ _ _ _ _ _ _ _ _ _ _ _⟩
 ·exact ⟨g19_4 _ _ _ _ _ _ _ _ _ _ _ _ _ _ _ _ _ _ _, g19_12 _ _ _ _ _ _ _ _ _ _ _ _ _ _ _ _ _ _ _⟩
 ·exact ⟨g19_5 _ _ _ _ _ _ _ _ _ _ _ _ _ _ _ _ _ _ _, g19_13 _ _ _ _ _ _ _ _ _ _ _ _ _ _ _ _ _ _ _⟩
 ·exact ⟨g19_6 _ _ _ _ _ _ _ _ _ _ _ _ _ _ _ _ _ _ _, g19_14 _ _ _ _ _ _ _ _ _ _ _ _ _ _ _ _ _ _ _⟩
 ·exact ⟨g19_7 _ _ _ _ _ _ _ _ _ _ _ _ _ _ _ _ _ _ _, g19_15 _ _ _ _ _ _ _ _ _ _ _ _ _ _ _ _ _ _ _⟩
 ·exact ⟨g19_8 _ _ _ _ _ _ _ _ _ _ _ _ _ _ _ _ _ _ _, g19_16 _ _ _ _ _ _ _ _ _ _ _ _ _ _ _ _ _ _ _⟩
theorem mc_row {F : PH} {bm : Nat} {s : Sl} {P Q : Nat → Bool} {bf n : Nat} {e : Bool} (h : F bm = some (.cells (mcells s P Q bf n e) 79)) : F.row ((Addr.mk bm 0 none).add 1) (plA P) ∧ F.row ((Addr.mk bm 0 none).add 9) (plA Q) := by
 constructor
 ·intro i hi
  have hi' : i < 8 := hi
  rw [add_off, add_off, cell_eq h, ← Array.getElem?_eq_getElem hi, plA_get P hi', Nat.zero_add]
  exact (mc_get hi').1
 ·intro i hi
  have hi' : i < 8 := hi
  rw [add_off, add_off, cell_eq h, ← Array.getElem?_eq_getElem hi, plA_get Q hi', Nat.zero_add]
  exact (mc_get hi').2
theorem flat_row {F : PH} {bf n i : Nat} {R : Nat → Nat → Bool} (h : F bf = some (.cells (flatR n R).toArray 76)) (hi : i < n) : F.row ((Addr.mk bf 0 none).add (i * 8)) (plA (R i)) := by
 obtain ⟨pre, post, hpre, hsp, _⟩ := flatR_split hi R
 have hs : SetB F bf 76 pre (R i) post := by unfold SetB; rw [← hsp]; exact h
 have := hs.row
 rw [hpre] at this
 rw [add_off, Nat.zero_add]
 exact this
theorem rdn3 {F : PH} {s : Sl} {l : List Nd} (h : RdS F s 5 (nflat l)) {i : Nat} {x : Nd} (hx : l[i]? = some x) : ∃ a, s.base = some a ∧ F.row (a.add (i * 5)) x.arr ∧ F.cell ((a.add (i * 5)).add 1) = some (vi x.lo) ∧ F.cell ((a.add (i * 5)).add 2) = some (vi x.hi) := by
 obtain ⟨a, h1, h2⟩ := rdn h hx
 exact ⟨a, h1, h2, by have := h2 1 (by simp); simpa using this, by have := h2 2 (by simp); simpa using this⟩
theorem Lo.sub {G F : PH} {xs ys : List (Nat × Array Value × TypeId)} (h : Lo G F xs) (hs : ys.Sublist xs) : Lo G F ys := ⟨h.le, fun p hp => h.z p (hs.subset hp), h.nd.sublist (hs.map _)⟩
section
variable {G F : PH} {l : List Nd} {t : Lt} {bm b3 b4 b6 b7 b8 b9 n : Nat} {st : ByteArray} {N P8 P9 : Nat → Bool}
theorem run1_spec (hM : Mch G bm l t) (hl : l.length ≤ 512) (h : Lo G F [(b9, plA P9, 76), (b8, plA P8, 76), (b7, #[vi n], 3), (b6, plA N, 76), (b4, #[.string st], 9), (b3, #[pa bm], 61)]) (hn : n < st.size) (hns : st.size ≤ 9223372036854775807) {i : Nat} (hi : i < l.length) :
  Spec prog 71 #[vi i, pa b4, pa b7, pa b3, pa b8, pa b9] F fun r F' => r = .tuple #[] ∧
   Lo G F' [(b9, plA (fun j => P9 j || (accB l (cb st n) i && foB t i j)), 76), (b8, plA (fun j => P8 j || (decide (j = i) && accB l (cb st n) i)), 76), (b7, #[vi n], 3), (b6, plA N, 76), (b4, #[.string st], 9), (b3, #[pa bm], 61)] := by
 obtain ⟨s, bf, qm, hs, qf⟩ := (hM.le h.le).ex
 have hlen := hs.nlen
 refine c71 ?_
 unfold b71
 have hx : l[i]? = some l[i] := List.getElem?_eq_getElem hi
 generalize l[i] = x at hx
 obtain ⟨a, ha, _, hlo, hhi⟩ := rdn3 hs hx
 have c3 : F.cell (Addr.mk b3 0 none) = some (pa bm) := by rw [h.cell (b := b3) (w := #[pa bm]) (e := 61) (by simp)]; rfl
 have cm : F.cell (Addr.mk bm 0 none) = some s.v := by rw [cell_eq qm]; rfl
 have ei : Int.toNat (i : Int) = i := Int.toNat_natCast i
 refine ⟨_, rfl, st, by rw [h.cell (b := b4) (w := #[.string st]) (e := 9) (by simp)]; rfl, _, rfl, (n : Int), by rw [h.cell (b := b7) (w := #[vi n]) (e := 3) (by simp)]; rfl, by omega, by omega, by simpa using hn, _, rfl, _, rfl, _, c3, _, rfl, s, cm, a, ha, by omega, by omega, x.lo, by rw [ei]; exact hlo, ?_⟩
 rw [cb_get rfl hn, w64n (by have := cb_byte st n; omega)]
 have j1 : ∀ tt : Bool, tt = accB l (cb st n) i → b71j1 i (some ⟨b3, 0, none⟩) (some ⟨b8, 0, none⟩) (some ⟨b9, 0, none⟩) tt (fun r F' => r = .tuple #[] ∧
   Lo G F' [(b9, plA (fun j => P9 j || (accB l (cb st n) i && foB t i j)), 76), (b8, plA (fun j => P8 j || (decide (j = i) && accB l (cb st n) i)), 76), (b7, #[vi n], 3), (b6, plA N, 76), (b4, #[.string st], 9), (b3, #[pa bm], 61)]) F := fun tt htt => by
  unfold b71j1
  refine ⟨fun ht => ?_, fun ht => ?_⟩
  ·rw [ht] at htt
   rw [← htt]
   refine (Lo.add [(b9, plA P9, 76)] _ (b := b8) (P := P8) (by omega) h).mono ?_
   rintro _ F2 ⟨rfl, h2⟩
   replace h2 : Lo G F2 [(b9, plA P9, 76), (b8, plA (fun j => P8 j || decide (j = i)), 76), (b7, #[vi n], 3), (b6, plA N, 76), (b4, #[.string st], 9), (b3, #[pa bm], 61)] := h2
   obtain ⟨s2, bf2, qm2, hs2, qf2⟩ := (hM.le h2.le).ex
   have c3' : F2.cell (Addr.mk b3 0 none) = some (pa bm) := by rw [h2.cell (b := b3) (w := #[pa bm]) (e := 61) (by simp)]; rfl
   refine ⟨rfl, _, rfl, _, c3', _, rfl, _, by rw [add_off, Nat.zero_add, cell_eq qm2]; rfl, _, rfl, by omega, by simp only; omega, plA (foB t i), rfl, by rw [ei]; exact flat_row qf2 hi, ?_⟩
   refine (Lo.join [] _ (b := b9) (P := P9) (Q := foB t i) h2).mono ?_
   rintro _ F3 ⟨rfl, h3⟩
   have e1 : (fun j => P9 j || (true && foB t i j)) = fun j => P9 j || foB t i j := by funext j; simp
   have e2 : (fun j => P8 j || (decide (j = i) && true)) = fun j => P8 j || decide (j = i) := by funext j; simp
   rw [e1, e2]
   exact ⟨rfl, rfl, h3⟩
  ·rw [ht] at htt
   rw [← htt]
   have e1 : (fun j => P9 j || (false && foB t i j)) = P9 := by funext j; simp
   have e2 : (fun j => P8 j || (decide (j = i) && false)) = P8 := by funext j; simp
   rw [e1, e2]
   exact ⟨rfl, h⟩
 refine ⟨fun h1 => ⟨_, c3, _, rfl, s, cm, a, ha, by omega, by omega, x.hi, by rw [ei]; exact hhi, j1 _ ?_⟩, fun h1 => j1 _ ?_⟩
 ·rw [Bool.eq_iff_iff, decide_eq_true_eq, accB_iff]
  constructor
  ·exact fun h2 => ⟨x, hx, h1, h2⟩
  ·rintro ⟨y, hy, _, h2⟩
   rw [hx] at hy
   cases hy
   exact h2
 ·symm
  rw [← Bool.not_eq_true, accB_iff]
  rintro ⟨y, hy, h2, _⟩
  rw [hx] at hy
  cases hy
  exact h1 h2
theorem cb71' : callableB prog 71 = true := by kernel_rfl
theorem Nx_ind {acc fol : Nat → Nat → Prop} {P : Nat → Prop} (hf : ∀ i j, fol i j → P j) : ∀ (w : List Nat) (S : Nat → Prop), (∀ j, S j → P j) → ∀ j, Nx acc fol S w j → P j
 | [], S, hS, j, h => hS j h
 | b :: w, S, hS, j, h => Nx_ind hf w _ (fun j ⟨i, _, _, h⟩ => hf i j h) j h
theorem now_lt {l : List Nd} {i0 : Nat} {t : Lt} {ns : List Nat} (ht : TreeAt l i0 t ns) {w : List Nat} {j : Nat} (h : nowP l t w j) : j < l.length :=
 Nx_ind (P := fun j => j < l.length) (fun i j h => (tree_mem ht).1 j ((tree_mem ht).2 j (t.fol_lab h).2)) w t.first (fun j h => (tree_mem ht).1 j ((tree_mem ht).2 j (t.first_lab h))) j h
theorem now_snoc {l : List Nd} {t : Lt} (w : List Nat) (b j : Nat) : nowP l t (w ++ [b]) j ↔ ∃ i, nowP l t w i ∧ accN l i b ∧ t.fol i j := Nx_snoc w b _ j
theorem Lo.le' {G F F' : PH} {xs : List (Nat × Array Value × TypeId)} (h : Lo G F xs) (hl : F.le F') : Lo G F' xs := ⟨le_trans' h.le hl, fun p hp => ⟨hl _ _ (h.z p hp).1, (h.z p hp).2⟩, h.nd⟩
open Classical in
noncomputable def reB (l : List Nd) (t : Lt) (w : List Nat) (b m : Nat) : Nat → Bool := fun j => decide (j < m ∧ nowP l t w j ∧ accN l j b)
theorem reB_iff {l : List Nd} {t : Lt} {w : List Nat} {b m j : Nat} : reB l t w b m j = true ↔ j < m ∧ nowP l t w j ∧ accN l j b := by simp [reB]
open Classical in
noncomputable def nxB (l : List Nd) (t : Lt) (w : List Nat) (b m : Nat) : Nat → Bool := fun j => decide (∃ i, i < m ∧ nowP l t w i ∧ accN l i b ∧ t.fol i j)
theorem nxB_iff {l : List Nd} {t : Lt} {w : List Nat} {b m j : Nat} : nxB l t w b m j = true ↔ ∃ i, i < m ∧ nowP l t w i ∧ accN l i b ∧ t.fol i j := by simp [nxB]
set_option maxHeartbeats 1000000 in
theorem run_spec {k : FuncId} {cap : Array Value} {Inv : Nat → PH → Prop} (hk : callableB prog k = true) (hl : l.length ≤ 512) (hG : GoodL l) {ns : List Nat} {i0 : Nat} (ht : TreeAt l i0 t ns) (hns : st.size ≤ 9223372036854775806)
  (hI : ∀ n F, Inv n F → Tab F ∧ Mch F bm l t)
  (h1 : ∀ n F (q : Bool), n < st.size → (q = true ↔ Lg t.pat ((bs st).take (n + 1))) → Inv n F → Spec prog k (#[vi ((n + 1 : Nat) : Int), .bool q] ++ cap) F fun r F' => r = .bool true ∧ Inv (n + 1) F') (hF : Inv 0 F) :
  Spec prog 43 #[pa bm, .string st, .func (.func k) #[] cap] F fun r F' => r = .tuple #[] ∧ ∃ n G, n ≤ st.size ∧ Inv n G ∧ G.le F' ∧ (n = st.size ∨ ∀ m, n < m → m ≤ st.size → ¬ Lg t.pat ((bs st).take m)) := by
 have hfit := tree_fits hG ht
 refine c43 ?_
 unfold b43
 have h := Lo.start F
 refine h.new _ _ fun b3 F1 h => ?_
 refine h.new _ _ fun b4 F2 h => ?_
 obtain ⟨s, bf, qm, hs, qf⟩ := ((hI 0 F hF).2.le h.le).ex
 refine ⟨_, by rw [h.cell (b := b3) (w := #[pa bm]) (e := 61) (by simp)]; rfl, _, rfl, plA (fB t), rfl, (mc_row qm).1, ?_⟩
 refine h.new _ _ fun b6 F3 h => ?_
 rw [← plA_none] at h
 refine Lo.put [] _ (n := 8) (b := b6) (w0 := plA noP) (w := plA (fB t)) (e := 76) h rfl rfl (plA_st _) fun F4 h => ?_
 replace h : Lo F F4 [(b6, plA (fB t), 76), (b4, #[.string st], 9), (b3, #[pa bm], 61)] := h
 have e0 : fB t = nowB l t ((bs st).take 0) := by funext j; rw [Bool.eq_iff_iff, fB_iff, nowB_iff]; rfl
 rw [e0] at h
 refine ⟨st, by rw [h.cell (b := b4) (w := #[.string st]) (e := 9) (by simp)]; rfl, fun M v F' => ∃ n G, v = ((n : Nat) : Int) ∧ n ≤ st.size ∧ M = st.size - n ∧ Inv n G ∧ Lo G F' [(b6, plA (nowB l t ((bs st).take n)), 76), (b4, #[.string st], 9), (b3, #[pa bm], 61)], st.size, ⟨0, F, rfl, Nat.zero_le _, rfl, hF, h⟩, ?_⟩
 clear h qm hs qf e0
 rintro _ _ F5 ⟨n, G, rfl, hn, rfl, hIn, h⟩
 unfold b43L1
 refine ⟨fun hlt => ?_, fun hge => ⟨rfl, n, G, hn, hIn, h.le, .inl (by omega)⟩⟩
 have hlt : n < st.size := by omega
 have hltb : n < (bs st).length := by rw [bs_length]; exact hlt
 have hcb : cb st n = (bs st)[n] := by rw [bs_cb, List.getD_eq_getElem?_getD, List.getElem?_eq_getElem hltb]; rfl
 refine h.new _ _ fun b7 F6 h => ?_
 refine Lo.put1 [] _ (b := b7) (i := 0) (w0 := #[vi 0]) (w := #[vi n]) (e := 3) h (by simp) rfl fun F7 h => ?_
 replace h : Lo G F7 [(b7, #[vi n], 3), (b6, plA (nowB l t ((bs st).take n)), 76), (b4, #[.string st], 9), (b3, #[pa bm], 61)] := h
 refine h.new _ _ fun b8 F8 h => ?_
 refine h.new _ _ fun b9 F9 h => ?_
 rw [← plA_none] at h
 obtain ⟨hT, hM⟩ := hI n G hIn
 -- the places that are reached
 refine (each_spec (a := ⟨b6, 0, none⟩) (P := nowB l t ((bs st).take n)) (k := 71) (cap := #[pa b4, pa b7, pa b3, pa b8, pa b9])
  (Inv := fun m F' => Lo G F' [(b9, plA (nxB l t ((bs st).take n) (cb st n) m), 76), (b8, plA (reB l t ((bs st).take n) (cb st n) m), 76), (b7, #[vi n], 3), (b6, plA (nowB l t ((bs st).take n)), 76), (b4, #[.string st], 9), (b3, #[pa bm], 61)])
  cb71' rfl (fun m F' hI' => ⟨hT.le hI'.le, hI'.row (b := b6) (w := plA (nowB l t ((bs st).take n))) (e := 76) (by simp)⟩) ?_ ?_ ?_).mono ?_
 ·intro i F' hi hp hI'
  have hnp : ¬ nowP l t ((bs st).take n) i := fun h => by rw [nowB_iff.2 h] at hp; cases hp
  have e9 : nxB l t ((bs st).take n) (cb st n) (i + 1) = nxB l t ((bs st).take n) (cb st n) i := by
   funext j
   rw [Bool.eq_iff_iff, nxB_iff, nxB_iff]
   constructor
   ·rintro ⟨i', h1, h2, h3⟩
    have : i' ≠ i := fun e => hnp (e ▸ h2)
    exact ⟨i', by omega, h2, h3⟩
   ·rintro ⟨i', h1, h2, h3⟩
    exact ⟨i', by omega, h2, h3⟩
  have e8 : reB l t ((bs st).take n) (cb st n) (i + 1) = reB l t ((bs st).take n) (cb st n) i := by
   funext j
   rw [Bool.eq_iff_iff, reB_iff, reB_iff]
   constructor
   ·rintro ⟨h1, h2, h3⟩
    have : j ≠ i := fun e => hnp (e ▸ h2)
    exact ⟨by omega, h2, h3⟩
   ·rintro ⟨h1, h2, h3⟩
    exact ⟨by omega, h2, h3⟩
  rw [e9, e8]
  exact hI'
 ·intro i F' hi hp hI'
  have hnp := nowB_iff.1 hp
  have hil := now_lt ht hnp
  refine (run1_spec hM hl hI' hlt (by omega) hil).mono ?_
  rintro _ F'' ⟨rfl, h2⟩
  refine ⟨rfl, ?_⟩
  have e9 : (fun j => nxB l t ((bs st).take n) (cb st n) i j || (accB l (cb st n) i && foB t i j)) = nxB l t ((bs st).take n) (cb st n) (i + 1) := by
   funext j
   rw [Bool.eq_iff_iff, Bool.or_eq_true, Bool.and_eq_true, nxB_iff, nxB_iff, accB_iff, foB_iff]
   constructor
   ·rintro (⟨i', h1, h2⟩ | ⟨h1, h2⟩)
    ·exact ⟨i', by omega, h2⟩
    ·exact ⟨i, by omega, hnp, h1, h2⟩
   ·rintro ⟨i', h1, h2, h3⟩
    by_cases e : i' = i
    ·subst e
     exact .inr h3
    ·exact .inl ⟨i', by omega, h2, h3⟩
  have e8 : (fun j => reB l t ((bs st).take n) (cb st n) i j || (decide (j = i) && accB l (cb st n) i)) = reB l t ((bs st).take n) (cb st n) (i + 1) := by
   funext j
   rw [Bool.eq_iff_iff, Bool.or_eq_true, Bool.and_eq_true, reB_iff, reB_iff, decide_eq_true_eq, accB_iff]
   constructor
   ·rintro (⟨h1, h2⟩ | ⟨h1, h2⟩)
    ·exact ⟨by omega, h2⟩
    ·subst h1
     exact ⟨by omega, hnp, h2⟩
   ·rintro ⟨h1, h2, h3⟩
    by_cases e : j = i
    ·subst e
     exact .inr ⟨rfl, h3⟩
    ·exact .inl ⟨by omega, h2, h3⟩
  rw [e9, e8] at h2
  exact h2
 ·have e9 : nxB l t ((bs st).take n) (cb st n) 0 = noP := by
   funext j
   show _ = false
   rw [← Bool.not_eq_true, nxB_iff]
   rintro ⟨i, h, _⟩
   omega
  have e8 : reB l t ((bs st).take n) (cb st n) 0 = noP := by
   funext j
   show _ = false
   rw [← Bool.not_eq_true, reB_iff]
   rintro ⟨h, _⟩
   omega
  rw [e9, e8]
  exact h
 ·clear h
  rintro _ F10 ⟨rfl, h⟩
  generalize hre : reB l t ((bs st).take n) (cb st n) 512 = re at h
  generalize hnx : nxB l t ((bs st).take n) (cb st n) 512 = nx at h
  have hre' : ∀ j, re j = true ↔ nowP l t ((bs st).take n) j ∧ accN l j (cb st n) := fun j => by
   rw [← hre, reB_iff]
   exact ⟨fun h => h.2, fun h => ⟨by have := now_lt ht h.1; omega, h⟩⟩
  have hnx' : nx = nowB l t ((bs st).take (n + 1)) := by
   rw [← hnx]
   funext j
   rw [Bool.eq_iff_iff, nxB_iff, nowB_iff, take_snoc hltb, now_snoc, ← hcb]
   constructor
   ·rintro ⟨i', _, h2⟩
    exact ⟨i', h2⟩
   ·rintro ⟨i', h2⟩
    exact ⟨i', by have := now_lt ht h2.1; omega, h2⟩
  refine ⟨rfl, plA re, rfl, h.row (b := b8) (w := plA re) (e := 76) (by simp), _, fun F => by have := eqPl (F := F) re noP; rw [plA_none] at this; exact this, fun hz => ?_, fun hz => ?_⟩
  ·have hz' := (eqPl_none re).1 hz
   refine ⟨rfl, n, G, hn, hIn, h.le, .inr fun m hm hml => acc_none hfit hltb (fun j hj => ?_) hm (by rw [bs_length]; exact hml)⟩
   rw [← hcb] at hj
   have := hz' j (by have := now_lt ht hj.1; omega)
   rw [(hre' j).2 hj] at this
   cases this
  ·obtain ⟨s, bf, qm, hs, qf⟩ := (hM.le h.le).ex
   have c7 : ∀ {F' G' : PH}, Lo G' F' [(b9, plA nx, 76), (b8, plA re, 76), (b7, #[vi n], 3), (b6, plA (nowB l t ((bs st).take n)), 76), (b4, #[.string st], 9), (b3, #[pa bm], 61)] → F'.cell (Addr.mk b7 0 none) = some (vi n) := fun h => by rw [h.cell (b := b7) (w := #[vi n]) (e := 3) (by simp)]; rfl
   have c3 : ∀ {F' G' : PH}, Lo G' F' [(b9, plA nx, 76), (b8, plA re, 76), (b7, #[vi n], 3), (b6, plA (nowB l t ((bs st).take n)), 76), (b4, #[.string st], 9), (b3, #[pa bm], 61)] → F'.cell (Addr.mk b3 0 none) = some (pa bm) := fun h => by rw [h.cell (b := b3) (w := #[pa bm]) (e := 61) (by simp)]; rfl
   refine ⟨_, c7 h, _, c3 h, _, rfl, plA (lB t), rfl, (mc_row qm).2, ?_⟩
   refine (meets_spec (pre := []) (post := []) (Q := lB t) (SetB.own.2 (h.get (b := b8) (w := plA re) (e := 76) (by simp)))).mono ?_
   rintro _ F11 ⟨⟨q, rfl, hq⟩, l11⟩
   replace h := h.le' l11
   have hq' : q = true ↔ Lg t.pat ((bs st).take (n + 1)) := by
    rw [hq, take_snoc hltb, acc_iff hfit, ← hcb]
    constructor
    ·rintro ⟨i, _, h2, h3⟩
     obtain ⟨h4, h5⟩ := (hre' i).1 h2
     exact ⟨i, h4, h5, lB_iff.1 h3⟩
    ·rintro ⟨i, h4, h5, h3⟩
     exact ⟨i, by have := now_lt ht h4; omega, (hre' i).2 ⟨h4, h5⟩, lB_iff.2 h3⟩
   refine ⟨q, rfl, c3 h, c7 h, h.row (b := b8) (w := plA re) (e := 76) (by simp), k, #[], cap, rfl, hk, ?_⟩
   have hcall := h.call (h1 n G q hlt hq' hIn)
   rw [w64s (by omega)]
   refine Spec.mono (R := fun r F' => ∃ G', (r = .bool true ∧ Inv (n + 1) G') ∧ Lo G' F' _) (by simpa using hcall) ?_
   clear hcall h
   rintro _ F12 ⟨G', ⟨rfl, hIn'⟩, h⟩
   refine ⟨true, rfl, c3 h, c7 h, h.row (b := b8) (w := plA re) (e := 76) (by simp), fun hh => by simp at hh, fun _ => ⟨plA nx, rfl, h.row (b := b9) (w := plA nx) (e := 76) (by simp), ?_⟩⟩
   refine Lo.put [(b9, plA nx, 76), (b8, plA re, 76), (b7, #[vi n], 3)] _ (n := 8) (b := b6) (w0 := plA (nowB l t ((bs st).take n))) (w := plA nx) (e := 76) h rfl rfl (plA_st _) fun F13 h => ?_
   replace h : Lo G' F13 [(b9, plA nx, 76), (b8, plA re, 76), (b7, #[vi n], 3), (b6, plA nx, 76), (b4, #[.string st], 9), (b3, #[pa bm], 61)] := h
   rw [hnx'] at h
   exact ⟨st.size - (n + 1), by omega, n + 1, G', rfl, hlt, rfl, hIn', h.sub (.cons _ (.cons _ (.cons _ (List.Sublist.refl _))))⟩
end
theorem bs_extract (s : ByteArray) (a b : Nat) : bs (s.extract a b) = ((bs s).drop a).take (b - a) := by
 unfold bs
 rw [ByteArray.data_extract, Array.toList_extract, List.extract_eq_take_drop, List.map_take, List.map_drop]
structure Best (A : Nat → Prop) (n b : Nat) : Prop where
 le : b ≤ n
 is : b = 0 ∨ A b
 no : ∀ m, b < m → m ≤ n → ¬ A m
theorem Best.uniq {A : Nat → Prop} {n b c : Nat} (hb : Best A n b) (hc : Best A n c) : b = c := by
 rcases Nat.lt_trichotomy b c with h | h | h
 ·rcases hc.is with e | e
  ·omega
  ·exact absurd e (hb.no c h hc.le)
 ·exact h
 ·rcases hb.is with e | e
  ·omega
  ·exact absurd e (hc.no b h hb.le)
section
variable {F : PH} {l : List Nd} {s : Sl}
theorem cb44' : callableB prog 44 = true := by kernel_rfl
theorem cb53' : callableB prog 53 = true := by kernel_rfl
def LgL (l : List Nd) (w : List Nat) : Prop := Lg (treeL l).pat w
theorem longest_spec (hT : Tab F) (hs : RdS F s 5 (nflat l)) (st : ByteArray) (hst : st.size ≤ 1000000000) (at_ : Int) : Spec prog 17 #[s.v, .string st, vi at_] F fun r F' =>
  ((¬ (chkP l = 0 ∧ 0 ≤ at_ ∧ at_ ≤ st.size) ∧ r = .tuple #[vi 0, .bool false]) ∨
   (chkP l = 0 ∧ 0 ≤ at_ ∧ at_ ≤ st.size ∧ ∃ b, Best (fun n => LgL l (((bs st).drop at_.toNat).take n)) (st.size - at_.toNat) b ∧ r = .tuple #[vi b, .bool (decide (0 < b))])) ∧ F.le F' := by
 refine c17 ?_
 unfold b17
 refine (check_spec hs).mono ?_
 rintro _ F1 ⟨rfl, l1⟩
 refine ⟨_, rfl, fun h => ⟨.inl ⟨fun hh => h hh.1, rfl⟩, l1⟩, fun h => ⟨fun h2 => ⟨.inl ⟨fun hh => by omega, rfl⟩, l1⟩, fun h2 => ⟨fun h3 => ⟨.inl ⟨fun hh => by omega, rfl⟩, l1⟩, fun h3 => ?_⟩⟩⟩
 have h0 : chkP l = 0 := by omega
 obtain ⟨hG, hl⟩ := chkP_zero h0
 obtain ⟨ns, ht⟩ := treeL_spec hG
 obtain ⟨a, rfl⟩ := Int.eq_ofNat_of_zero_le (by omega : 0 ≤ at_)
 have ha : a ≤ st.size := by omega
 have h := Lo.start F1
 refine h.new _ _ fun b8 F2 h => ?_
 refine Lo.put1 [] [] (b := b8) (i := 0) (w0 := #[vi 0]) (w := #[vi 0]) (e := 3) h (by simp) rfl fun F3 h => ?_
 replace h : Lo F1 F3 [(b8, #[vi 0], 3)] := h
 refine ⟨by omega, by rw [Int.toNat_natCast]; exact ha, Nat.le_refl _, ?_⟩
 refine (h.call (compile_spec (hT.le l1) hG hl (hs.le l1))).mono ?_
 rintro _ F4 ⟨G, ⟨⟨bm, rfl, hM⟩, l2⟩, h⟩
 refine ⟨_, rfl, ?_⟩
 rw [Int.toNat_natCast]
 have hbs : bs (st.extract a st.size) = (bs st).drop a := by
  rw [bs_extract, List.take_of_length_le]
  rw [List.length_drop, bs_length]
  omega
 have hsz : (st.extract a st.size).size = st.size - a := by rw [← bs_length, hbs, List.length_drop, bs_length]
 refine (run_spec (bm := bm) (k := 44) (cap := #[pa b8]) (Inv := fun n F' => ∃ b, Lo G F' [(b8, #[vi ((b : Nat) : Int)], 3)] ∧ Best (fun n => LgL l (((bs st).drop a).take n)) n b) cb44' hl hG ht (by rw [hsz]; omega)
  (fun n F' ⟨b, hL, _⟩ => ⟨(hT.le (le_trans' l1 l2)).le hL.le, hM.le hL.le⟩) ?_ ⟨0, h, Nat.zero_le _, .inl rfl, fun m h1 h2 => by omega⟩).mono ?_
 ·rintro n F' q hn hq ⟨b, hL, hB⟩
  rw [hbs] at hq
  show Spec prog 44 #[vi ((n + 1 : Nat) : Int), .bool q, pa b8] F' _
  refine c44 ?_
  unfold b44
  refine ⟨fun hq1 => ⟨_, rfl, ?_⟩, fun hq0 => ⟨rfl, b, hL, ?_⟩⟩
  ·refine Lo.put1 [] [] (b := b8) (i := 0) (w0 := #[vi ((b : Nat) : Int)]) (w := #[vi ((n + 1 : Nat) : Int)]) (e := 3) hL (by simp) rfl fun F'' h' => ?_
   exact ⟨rfl, n + 1, h', Nat.le_refl _, .inr (hq.1 hq1), fun m h1 h2 => by omega⟩
  ·refine ⟨by have := hB.le; omega, hB.is, fun m h1 h2 => ?_⟩
   by_cases e : m = n + 1
   ·subst e
    exact fun hA => by rw [hq.2 hA] at hq0; cases hq0
   ·exact hB.no m h1 (by omega)
 ·rintro _ F5 ⟨rfl, n, G', hn, ⟨b, hL, hB⟩, l5, hend⟩
  have cb : F5.cell (Addr.mk b8 0 none) = some (vi ((b : Nat) : Int)) := le_cell l5 (by rw [hL.cell (b := b8) (w := #[vi ((b : Nat) : Int)]) (e := 3) (by simp)]; rfl)
  refine ⟨rfl, _, cb, _, cb, .inr ⟨h0, by omega, by omega, b, ?_, ?_⟩, le_trans' l1 (le_trans' l2 (le_trans' hL.le l5))⟩
  ·rw [hsz] at hn hend
   rw [hbs] at hend
   rcases hend with e | e
   ·rw [← e]
    exact hB
   ·refine ⟨Nat.le_trans hB.le hn, hB.is, fun m h1 h2 => ?_⟩
    by_cases hmn : m ≤ n
    ·exact hB.no m h1 hmn
    ·exact e m (by omega) h2
  ·have : decide ((0 : Int) < ((b : Nat) : Int)) = decide (0 < b) := by rw [Bool.eq_iff_iff]; simp
   rw [this]
theorem matches_spec (hT : Tab F) (hs : RdS F s 5 (nflat l)) (st : ByteArray) (hst : st.size ≤ 1000000000) : Spec prog 23 #[s.v, .string st] F fun r F' => (∃ q : Bool, r = .bool q ∧ (q = true ↔ chkP l = 0 ∧ LgL l (bs st))) ∧ F.le F' := by
 refine c23 ?_
 unfold b23
 have h := Lo.start F
 refine h.new _ _ fun b3 F1 h => ?_
 refine (h.call (check_spec hs)).mono ?_
 rintro _ F2 ⟨G1, ⟨rfl, l1⟩, h⟩
 refine ⟨_, rfl, fun hc => ⟨⟨false, rfl, fun h => (by cases h), fun h => absurd h.1 hc⟩, le_trans' l1 h.le⟩, fun hc => ?_⟩
 have h0 : chkP l = 0 := by omega
 obtain ⟨hG, hl⟩ := chkP_zero h0
 obtain ⟨ns, ht⟩ := treeL_spec hG
 refine (h.call (compile_spec (hT.le l1) hG hl (hs.le l1))).mono ?_
 rintro _ F3 ⟨G, ⟨⟨bm, rfl, hM⟩, l2⟩, h⟩
 have c3 : F3.cell (Addr.mk b3 0 none) = some (.string st) := by rw [h.cell (b := b3) (w := #[.string st]) (e := 9) (by simp)]; rfl
 refine ⟨_, rfl, _, c3, ?_⟩
 have j1 : ∀ (b6 : Nat) (mt : Bool) (F4 : PH), Lo G F4 [(b6, #[.bool mt], 4), (b3, #[.string st], 9)] → (mt = true ↔ st.size = 0 ∧ (treeL l).nul = true) →
   b23j1 b3 (some ⟨bm, 0, none⟩) (some ⟨b6, 0, none⟩) (fun r F' => (∃ q : Bool, r = .bool q ∧ (q = true ↔ chkP l = 0 ∧ LgL l (bs st))) ∧ F.le F') F4 := fun b6 mt F4 h hmt => by
  unfold b23j1
  refine ⟨_, by rw [h.cell (b := b3) (w := #[.string st]) (e := 9) (by simp)]; rfl, ?_⟩
  refine (run_spec (bm := bm) (k := 53) (cap := #[pa b3, pa b6]) (Inv := fun n F' => ∃ mt : Bool, Lo G F' [(b6, #[.bool mt], 4), (b3, #[.string st], 9)] ∧ (n = 0 → (mt = true ↔ st.size = 0 ∧ (treeL l).nul = true)) ∧ (0 < n → (mt = true ↔ n = st.size ∧ LgL l ((bs st).take n)))) cb53' hl hG ht (by omega)
   (fun n F' ⟨b, hL, _⟩ => ⟨(hT.le (le_trans' l1 l2)).le hL.le, hM.le hL.le⟩) ?_ ⟨mt, h, fun _ => hmt, fun h => absurd h (by omega)⟩).mono ?_
  ·rintro n F' q hn hq ⟨mt, hL, _, _⟩
   show Spec prog 53 #[vi ((n + 1 : Nat) : Int), .bool q, pa b3, pa b6] F' _
   refine c53 ?_
   unfold b53
   refine ⟨_, rfl, _, by rw [hL.cell (b := b3) (w := #[.string st]) (e := 9) (by simp)]; rfl, fun he => ⟨_, rfl, ?_⟩, fun he => ⟨_, rfl, ?_⟩⟩
   ·refine Lo.put1 [] [(b3, #[.string st], 9)] (b := b6) (i := 0) (w0 := #[.bool mt]) (w := #[.bool q]) (e := 4) hL (by simp) rfl fun F'' h' => ?_
    exact ⟨rfl, q, h', fun h => by omega, fun _ => ⟨fun h => ⟨by omega, hq.1 h⟩, fun h => hq.2 h.2⟩⟩
   ·refine Lo.put1 [] [(b3, #[.string st], 9)] (b := b6) (i := 0) (w0 := #[.bool mt]) (w := #[.bool false]) (e := 4) hL (by simp) rfl fun F'' h' => ?_
    exact ⟨rfl, false, h', fun h => by omega, fun _ => ⟨fun h => (by cases h), fun h => by omega⟩⟩
  ·rintro _ F5 ⟨rfl, n, G', hn, ⟨mt, hL, hz, hp⟩, l5, hend⟩
   refine ⟨rfl, _, rfl, mt, le_cell l5 (by rw [hL.cell (b := b6) (w := #[.bool mt]) (e := 4) (by simp)]; rfl), ⟨mt, rfl, ?_⟩, le_trans' l1 (le_trans' l2 (le_trans' hL.le l5))⟩
   have hall : (bs st).take st.size = bs st := List.take_of_length_le (by rw [bs_length]; exact Nat.le_refl _)
   have hnil : st.size = 0 → bs st = [] := fun h => List.length_eq_zero_iff.1 (by rw [bs_length]; exact h)
   have hnul : (treeL l).nul = true ↔ LgL l [] := (treeL l).nul_iff
   rcases Nat.eq_zero_or_pos n with e | e
   ·subst e
    rw [hz rfl]
    constructor
    ·rintro ⟨h1, h2⟩
     exact ⟨h0, by rw [hnil h1]; exact hnul.1 h2⟩
    ·rintro ⟨_, h2⟩
     rcases hend with he | he
     ·exact ⟨he.symm, hnul.2 (by rw [← hnil he.symm]; exact h2)⟩
     ·rcases Nat.eq_zero_or_pos st.size with h1 | h1
      ·exact ⟨h1, hnul.2 (by rw [← hnil h1]; exact h2)⟩
      ·exact absurd (by rw [hall]; exact h2) (he st.size h1 (Nat.le_refl _))
   ·rw [hp e]
    constructor
    ·rintro ⟨h1, h2⟩
     exact ⟨h0, by rw [h1, hall] at h2; exact h2⟩
    ·rintro ⟨_, h2⟩
     rcases hend with he | he
     ·exact ⟨he, by rw [he, hall]; exact h2⟩
     ·by_cases h1 : n = st.size
      ·exact ⟨h1, by rw [h1, hall]; exact h2⟩
      ·exact absurd (by rw [hall]; exact h2) (he st.size (by omega) (Nat.le_refl _))
 have hemp : (st.toList == (ByteArray.mk #[]).toList) = decide (st.size = 0) := by
  rw [beq_bs]
  rw [Bool.eq_iff_iff, decide_eq_true_eq, decide_eq_true_eq, ← bs_length st]
  constructor
  ·intro h; rw [h]; rfl
  ·intro h; exact List.length_eq_zero_iff.1 h
 rw [hemp]
 refine ⟨fun he => ?_, fun he => ?_⟩
 ·have he := of_decide_eq_true he
  obtain ⟨s', bf, qm, _, _⟩ := (hM.le h.le).ex
  refine ⟨_, rfl, (treeL l).nul, by rw [add_off, cell_eq qm]; rfl, ?_⟩
  refine h.new _ _ fun b6 F4 h => ?_
  refine Lo.put1 [] [(b3, #[.string st], 9)] (b := b6) (i := 0) (w0 := #[.bool false]) (w := #[.bool (treeL l).nul]) (e := 4) h (by simp) rfl fun F5 h => ?_
  exact j1 b6 _ F5 h ⟨fun h => ⟨he, h⟩, fun h => h.2⟩
 ·have he := of_decide_eq_false he
  refine h.new _ _ fun b6 F4 h => ?_
  refine Lo.put1 [] [(b3, #[.string st], 9)] (b := b6) (i := 0) (w0 := #[.bool false]) (w := #[.bool false]) (e := 4) h (by simp) rfl fun F5 h => ?_
  exact j1 b6 _ F5 h ⟨fun h => (by cases h), fun h => absurd h.1 he⟩
end
end Go.Proofs.YtnjcgpihfmklfaaDoor
