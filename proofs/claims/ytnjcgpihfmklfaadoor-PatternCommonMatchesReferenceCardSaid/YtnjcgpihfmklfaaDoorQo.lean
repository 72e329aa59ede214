/-
  Print.
-/
import Derived.Test.YtnjcgpihfmklfaaDoorQm
import Derived.Test.YtnjcgpihfmklfaaDoorQn
import Derived.Test.YtnjcgpihfmklfaaDoorGd
namespace Go.Proofs.YtnjcgpihfmklfaaDoor
open Go Go.Proofs.Tryd
set_option maxRecDepth 10000
theorem cb46' : callableB prog 46 = true := by kernel_rfl
theorem hexA {k : Nat} (hk : k < 16) (h : k < (ByteArray.mk #[48, 49, 50, 51, 52, 53, 54, 55, 56, 57, 97, 98, 99, 100, 101, 102]).size) :
  (((ByteArray.mk #[48, 49, 50, 51, 52, 53, 54, 55, 56, 57, 97, 98, 99, 100, 101, 102])[k]'h).toNat : Int) = (hexD k : Nat) := by
 have : k = 0 ∨ k = 1 ∨ k = 2 ∨ k = 3 ∨ k = 4 ∨ k = 5 ∨ k = 6 ∨ k = 7 ∨ k = 8 ∨ k = 9 ∨ k = 10 ∨ k = 11 ∨ k = 12 ∨ k = 13 ∨ k = 14 ∨ k = 15 := by omega
 rcases this with rfl | rfl | rfl | rfl | rfl | rfl | rfl | rfl | rfl | rfl | rfl | rfl | rfl | rfl | rfl | rfl <;> rfl
theorem hexD_lt {k : Nat} (hk : k < 16) : hexD k < 256 := by unfold hexD; split <;> omega
def StrV (v : Value) (ns : List Nat) : Prop := ∃ st : ByteArray, v = .string st ∧ bs st = ns
section
variable {F : PH}
theorem chs_spec (b : Nat) (hb : b < 256) : Spec prog 47 #[vi b] F fun r F' => StrV r (chS b) ∧ F.le F' := by
 refine c47 ?_
 unfold b47
 rw [wu8_eq (by omega) (by omega)]
 refine (plain_spec b).mono ?_
 rintro _ F' ⟨rfl, e⟩
 obtain rfl := e.symm
 refine ⟨_, rfl, fun hp => ?_, fun hp => ?_⟩
 ·intro b8 hb8
  refine atI ?_
  have q := set_eq F b8 (.cells #[.int .u8 b] 5)
  refine ⟨mkS [b], bts_rdo (RdS.new q rfl rfl (Nat.le_refl _)), ⟨_, rfl, ?_⟩, le_set_fresh _ hb8⟩
  rw [bs_mkS (by simp; omega)]
  unfold chS
  rw [if_pos hp]
 ·have e1 : IntKind.i64.wrap (Int.tdiv (b : Int) 16) = ((b / 16 : Nat) : Int) := by
   rw [show Int.tdiv (b : Int) 16 = ((b / 16 : Nat) : Int) from rfl, w64_eq (by omega) (by omega)]
  have e2 : Int.tmod (b : Int) 16 = ((b % 16 : Nat) : Int) := rfl
  have hs : (ByteArray.mk #[48, 49, 50, 51, 52, 53, 54, 55, 56, 57, 97, 98, 99, 100, 101, 102]).size = 16 := rfl
  rw [e1, e2]
  have h1 : b / 16 < 16 := by omega
  have h2 : b % 16 < 16 := by omega
  refine ⟨by omega, by rw [hs]; omega, by rw [Int.toNat_natCast, hs]; exact h1, _, rfl, by omega, by rw [hs]; omega, by rw [Int.toNat_natCast, hs]; exact h2, _, rfl, fun b16 hb16 => ?_⟩
  refine atI ?_
  have x1 : (((ByteArray.mk #[48, 49, 50, 51, 52, 53, 54, 55, 56, 57, 97, 98, 99, 100, 101, 102])[Int.toNat ((b / 16 : Nat) : Int)]'(by rw [Int.toNat_natCast, hs]; exact h1)).toNat : Int) = (hexD (b / 16) : Nat) := hexA h1 _
  have x2 : (((ByteArray.mk #[48, 49, 50, 51, 52, 53, 54, 55, 56, 57, 97, 98, 99, 100, 101, 102])[Int.toNat ((b % 16 : Nat) : Int)]'(by rw [Int.toNat_natCast, hs]; exact h2)).toNat : Int) = (hexD (b % 16) : Nat) := hexA h2 _
  rw [x1, x2]
  have q := set_eq F b16 (.cells #[.int .u8 92, .int .u8 120, .int .u8 (hexD (b / 16) : Nat), .int .u8 (hexD (b % 16) : Nat)] 5)
  refine ⟨mkS [92, 120, hexD (b / 16), hexD (b % 16)], bts_rdo (RdS.new q rfl rfl (Nat.le_refl _)), ⟨_, rfl, ?_⟩, le_set_fresh _ hb16⟩
  rw [bs_mkS (by have := hexD_lt h1; have := hexD_lt h2; simp; omega)]
  unfold chS
  rw [if_neg (by simp [hp])]
theorem chS_length (b : Nat) : (chS b).length ≤ 4 := by unfold chS; split <;> simp
theorem pr_length : ∀ t : Pat, t.pr.length + 2 ≤ 16 * t.size
 | .emp => by simp [Pat.pr, Pat.size]
 | .rng lo hi => by
  have := chS_length lo
  have := chS_length hi
  simp only [Pat.pr, Pat.size]
  split
  ·simp
   omega
  ·omega
 | .seq x y => by
  have := pr_length x
  have := pr_length y
  simp only [Pat.pr, Pat.size, Pat.par]
  split <;> split <;> simp <;> omega
 | .alt x y => by
  have := pr_length x
  have := pr_length y
  simp only [Pat.pr, Pat.size, Pat.par]
  split <;> simp <;> omega
 | .rep x => by
  have := pr_length x
  simp only [Pat.pr, Pat.size, Pat.par]
  split <;> simp <;> omega
theorem par_length (p : Bool) (s : List Nat) : (Pat.par p s).length ≤ s.length + 2 := by
 unfold Pat.par
 split <;> simp
structure Prn (F : PH) (b1 b5 : Nat) (l : List Nd) : Prop where
 q5 : F b5 = some (.cells #[.func (.func 46) #[] #[pa b1, pa b5]] 66)
 q1 : ∃ s : Sl, F b1 = some (.cells #[s.v] 25) ∧ RdS F s 5 (nflat l)
theorem Prn.le {F G : PH} {b1 b5 : Nat} {l : List Nd} (h : Prn F b1 b5 l) (hl : F.le G) : Prn G b1 b5 l := by
 obtain ⟨s, h1, h2⟩ := h.q1
 exact ⟨hl _ _ h.q5, s, hl _ _ h1, h2.le hl⟩
theorem show_j1 {least lv : Nat} {st : ByteArray} {R : Value → PH → Prop} (hs : st.size ≤ 100000000) (k : ∀ v, StrV v (Pat.par (lv < least) (bs st)) → R v F) : b46j1 least st lv R F := by
 unfold b46j1
 have s1 : (ByteArray.mk #[40]).size = 1 := rfl
 have s2 : (ByteArray.mk #[41]).size = 1 := rfl
 refine ⟨fun h => ?_, fun h => k _ ⟨_, rfl, ?_⟩⟩
 ·refine ⟨by rw [s1]; omega, by rw [ByteArray.size_append, s1, s2]; omega, k _ ⟨_, rfl, ?_⟩⟩
  rw [bs_append, bs_append]
  unfold Pat.par
  rw [if_pos (by simp; omega)]
  rfl
 ·unfold Pat.par
  rw [if_neg (by simp; omega)]
theorem show_spec {l : List Nd} {b1 b5 i : Nat} {t : Lt} {ns : List Nat} (h : TreeAt l i t ns) : t.pat.size ≤ 100000 → ∀ {F : PH} {least : Nat}, Prn F b1 b5 l → least ≤ 3 →
  Spec prog 46 #[vi i, vi least, pa b1, pa b5] F fun r F' => StrV r (Pat.par (t.pat.level < least) t.pat.pr) ∧ F.le F' := by
 induction h with
 | @emp i x hx hk =>
  intro _ F least hP hl3
  obtain ⟨s, q1, hs⟩ := hP.q1
  have hlen := hs.nlen
  have hi := (List.getElem?_eq_some_iff.1 hx).1
  obtain ⟨a, ha, hrow⟩ := rdn hs hx
  refine c46 ?_
  unfold b46
  refine ⟨_, rfl, s, by rw [cell_eq q1]; rfl, a, ha, by omega, by omega, x.arr, rfl, hrow, fun b7 hb7 => ?_⟩
  refine atI ?_
  refine stW (set_eq _ _ _) rfl rfl (st_narr x) ?_
  rw [set_twice]
  have l7 : F.le (F.set b7 (.cells x.arr 50)) := le_set_fresh _ hb7
  refine ⟨x.k, by rw [cell_eq (set_eq _ _ _)]; rfl, fun h => absurd h (by omega), fun _ => ⟨fun h => absurd h (by omega), fun _ => ⟨fun h => absurd h (by omega), fun _ => ⟨fun h => absurd h (by omega), fun _ => ?_⟩⟩⟩⟩
  exact show_j1 (lv := 3) (by decide) fun v hv => ⟨hv, l7⟩
 | @rng i lo hi x hx hk hlo hhi hle h255 =>
  intro _ F least hP hl3
  obtain ⟨s, q1, hs⟩ := hP.q1
  have hlen := hs.nlen
  have hi' := (List.getElem?_eq_some_iff.1 hx).1
  obtain ⟨a, ha, hrow⟩ := rdn hs hx
  refine c46 ?_
  unfold b46
  refine ⟨_, rfl, s, by rw [cell_eq q1]; rfl, a, ha, by omega, by omega, x.arr, rfl, hrow, fun b7 hb7 => ?_⟩
  refine atI ?_
  refine stW (set_eq _ _ _) rfl rfl (st_narr x) ?_
  rw [set_twice]
  have l7 : F.le (F.set b7 (.cells x.arr 50)) := le_set_fresh _ hb7
  have q7 := set_eq F b7 (.cells x.arr 50)
  generalize F.set b7 (.cells x.arr 50) = F1 at *
  have c1 : ∀ {G : PH}, F1.le G → G.cell (Addr.mk b7 1 none) = some (vi lo) := fun h => by rw [cell_eq (h _ _ q7), ← hlo]; rfl
  have c2 : ∀ {G : PH}, F1.le G → G.cell (Addr.mk b7 2 none) = some (vi hi) := fun h => by rw [cell_eq (h _ _ q7), ← hhi]; rfl
  refine ⟨x.k, by rw [cell_eq q7]; rfl, fun _ => ?_, fun h => absurd hk h⟩
  refine ⟨_, c1 (le_refl' _), ?_⟩
  refine (chs_spec lo (by omega)).mono ?_
  rintro _ F2 ⟨⟨u, rfl, hu⟩, l2⟩
  have hus : u.size ≤ 4 := by rw [← bs_length, hu]; exact chS_length lo
  refine ⟨u, rfl, _, c1 l2, _, c2 l2, fun hlt => ?_, fun hge => ?_⟩
  ·have s1 : (ByteArray.mk #[91]).size = 1 := rfl
   have s2 : (ByteArray.mk #[45]).size = 1 := rfl
   have s3 : (ByteArray.mk #[93]).size = 1 := rfl
   refine ⟨by rw [s1]; omega, by rw [ByteArray.size_append, s1, s2]; omega, _, c2 l2, ?_⟩
   refine (chs_spec hi (by omega)).mono ?_
   rintro _ F3 ⟨⟨w, rfl, hw⟩, l3⟩
   have hws : w.size ≤ 4 := by rw [← bs_length, hw]; exact chS_length hi
   refine ⟨w, rfl, by simp only [ByteArray.size_append, s1, s2]; omega, by simp only [ByteArray.size_append, s1, s2, s3]; omega, ?_⟩
   refine show_j1 (lv := 3) (by simp only [ByteArray.size_append, s1, s2, s3]; omega) fun v hv => ⟨?_, le_trans' l7 (le_trans' l2 l3)⟩
   simp only [bs_append, hu, hw] at hv
   simp only [Lt.pat, Pat.pr, Pat.level]
   rw [if_pos (by omega)]
   have e : bs (ByteArray.mk #[91]) ++ chS lo ++ bs (ByteArray.mk #[45]) ++ chS hi ++ bs (ByteArray.mk #[93]) = 91 :: chS lo ++ (45 :: chS hi ++ [93]) := by
    rw [show bs (ByteArray.mk #[91]) = [91] from rfl, show bs (ByteArray.mk #[45]) = [45] from rfl, show bs (ByteArray.mk #[93]) = [93] from rfl]
    simp
   rw [e] at hv
   exact hv
  ·refine show_j1 (lv := 3) (by omega) fun v hv => ⟨?_, le_trans' l7 l2⟩
   rw [hu] at hv
   simp only [Lt.pat, Pat.pr, Pat.level]
   rw [if_neg (by omega)]
   exact hv
 | @seq i a b x t u na nb hx hk hxa hxb ht hu it iu =>
  intro hsz F least hP hl3
  simp only [Lt.pat, Pat.size] at hsz
  obtain ⟨s, q1, hs⟩ := hP.q1
  have hlen := hs.nlen
  have hi' := (List.getElem?_eq_some_iff.1 hx).1
  obtain ⟨ad, had, hrow⟩ := rdn hs hx
  refine c46 ?_
  unfold b46
  refine ⟨_, rfl, s, by rw [cell_eq q1]; rfl, ad, had, by omega, by omega, x.arr, rfl, hrow, fun b7 hb7 => ?_⟩
  refine atI ?_
  refine stW (set_eq _ _ _) rfl rfl (st_narr x) ?_
  rw [set_twice]
  have l7 : F.le (F.set b7 (.cells x.arr 50)) := le_set_fresh _ hb7
  have q7 := set_eq F b7 (.cells x.arr 50)
  generalize F.set b7 (.cells x.arr 50) = F1 at *
  have c1 : ∀ {G : PH}, F1.le G → G.cell (Addr.mk b7 3 none) = some (vi a) := fun h => by rw [cell_eq (h _ _ q7), ← hxa]; rfl
  have c2 : ∀ {G : PH}, F1.le G → G.cell (Addr.mk b7 4 none) = some (vi b) := fun h => by rw [cell_eq (h _ _ q7), ← hxb]; rfl
  have hP1 := hP.le l7
  have c5 : ∀ {G : PH}, F1.le G → G.cell (Addr.mk b5 0 none) = some (.func (.func 46) #[] #[pa b1, pa b5]) := fun h => by rw [cell_eq (h _ _ hP1.q5)]; rfl
  refine ⟨x.k, by rw [cell_eq q7]; rfl, fun h => absurd h (by omega), fun _ => ⟨fun _ => ?_, fun h => absurd hk h⟩⟩
  refine ⟨_, rfl, _, c5 (le_refl' _), _, c1 (le_refl' _), _, c5 (le_refl' _), _, c2 (le_refl' _), 46, #[], _, rfl, cb46', ?_⟩
  refine (it (by omega) (least := 2) hP1 (by omega)).mono ?_
  rintro _ F2 ⟨⟨v, rfl, hv⟩, l2⟩
  refine ⟨v, rfl, c2 l2, c5 l2, 46, #[], _, rfl, cb46', ?_⟩
  refine (iu (by omega) (least := 3) (hP1.le l2) (by omega)).mono ?_
  rintro _ F3 ⟨⟨w, rfl, hw⟩, l3⟩
  have e1 := pr_length t.pat
  have e2 := pr_length u.pat
  have hvs : v.size ≤ 1700000 := by
   rw [← bs_length, hv]
   have := par_length (t.pat.level < 2) t.pat.pr
   omega
  have hws : w.size ≤ 1700000 := by
   rw [← bs_length, hw]
   have := par_length (u.pat.level < 3) u.pat.pr
   omega
  refine ⟨w, rfl, by omega, ?_⟩
  refine show_j1 (lv := 2) (by rw [ByteArray.size_append]; omega) fun r hr => ⟨?_, le_trans' l7 (le_trans' l2 l3)⟩
  rw [bs_append, hv, hw] at hr
  exact hr
 | @alt i a b x t u na nb hx hk hxa hxb ht hu it iu =>
  intro hsz F least hP hl3
  simp only [Lt.pat, Pat.size] at hsz
  obtain ⟨s, q1, hs⟩ := hP.q1
  have hlen := hs.nlen
  have hi' := (List.getElem?_eq_some_iff.1 hx).1
  obtain ⟨ad, had, hrow⟩ := rdn hs hx
  refine c46 ?_
  unfold b46
  refine ⟨_, rfl, s, by rw [cell_eq q1]; rfl, ad, had, by omega, by omega, x.arr, rfl, hrow, fun b7 hb7 => ?_⟩
  refine atI ?_
  refine stW (set_eq _ _ _) rfl rfl (st_narr x) ?_
  rw [set_twice]
  have l7 : F.le (F.set b7 (.cells x.arr 50)) := le_set_fresh _ hb7
  have q7 := set_eq F b7 (.cells x.arr 50)
  generalize F.set b7 (.cells x.arr 50) = F1 at *
  have c1 : ∀ {G : PH}, F1.le G → G.cell (Addr.mk b7 3 none) = some (vi a) := fun h => by rw [cell_eq (h _ _ q7), ← hxa]; rfl
  have c2 : ∀ {G : PH}, F1.le G → G.cell (Addr.mk b7 4 none) = some (vi b) := fun h => by rw [cell_eq (h _ _ q7), ← hxb]; rfl
  have hP1 := hP.le l7
  have c5 : ∀ {G : PH}, F1.le G → G.cell (Addr.mk b5 0 none) = some (.func (.func 46) #[] #[pa b1, pa b5]) := fun h => by rw [cell_eq (h _ _ hP1.q5)]; rfl
  refine ⟨x.k, by rw [cell_eq q7]; rfl, fun h => absurd h (by omega), fun _ => ⟨fun h => absurd h (by omega), fun _ => ⟨fun _ => ?_, fun h => absurd hk h⟩⟩⟩
  refine ⟨_, rfl, _, c5 (le_refl' _), _, c1 (le_refl' _), _, c5 (le_refl' _), _, c2 (le_refl' _), 46, #[], _, rfl, cb46', ?_⟩
  refine (it (by omega) (least := 1) hP1 (by omega)).mono ?_
  rintro _ F2 ⟨⟨v, rfl, hv⟩, l2⟩
  have e1 := pr_length t.pat
  have e2 := pr_length u.pat
  have hlv : ¬ t.pat.level < 1 := by cases t.pat <;> simp [Pat.level]
  have hv' : bs v = t.pat.pr := by
   rw [hv]
   unfold Pat.par
   rw [if_neg (by simpa using hlv)]
  have hvs : v.size ≤ 1700000 := by rw [← bs_length, hv']; omega
  have s1 : (ByteArray.mk #[124]).size = 1 := rfl
  refine ⟨v, rfl, c2 l2, c5 l2, by rw [s1]; omega, 46, #[], _, rfl, cb46', ?_⟩
  refine (iu (by omega) (least := 2) (hP1.le l2) (by omega)).mono ?_
  rintro _ F3 ⟨⟨w, rfl, hw⟩, l3⟩
  have hws : w.size ≤ 1700000 := by
   rw [← bs_length, hw]
   have := par_length (u.pat.level < 2) u.pat.pr
   omega
  refine ⟨w, rfl, by rw [ByteArray.size_append, s1]; omega, ?_⟩
  refine show_j1 (lv := 1) (by rw [ByteArray.size_append, ByteArray.size_append, s1]; omega) fun r hr => ⟨?_, le_trans' l7 (le_trans' l2 l3)⟩
  rw [bs_append, bs_append, hv', hw, show bs (ByteArray.mk #[124]) = [124] from rfl, List.append_assoc, List.singleton_append] at hr
  exact hr
 | @rep i a x t na hx hk hxa ht it =>
  intro hsz F least hP hl3
  simp only [Lt.pat, Pat.size] at hsz
  obtain ⟨s, q1, hs⟩ := hP.q1
  have hlen := hs.nlen
  have hi' := (List.getElem?_eq_some_iff.1 hx).1
  obtain ⟨ad, had, hrow⟩ := rdn hs hx
  refine c46 ?_
  unfold b46
  refine ⟨_, rfl, s, by rw [cell_eq q1]; rfl, ad, had, by omega, by omega, x.arr, rfl, hrow, fun b7 hb7 => ?_⟩
  refine atI ?_
  refine stW (set_eq _ _ _) rfl rfl (st_narr x) ?_
  rw [set_twice]
  have l7 : F.le (F.set b7 (.cells x.arr 50)) := le_set_fresh _ hb7
  have q7 := set_eq F b7 (.cells x.arr 50)
  generalize F.set b7 (.cells x.arr 50) = F1 at *
  have c1 : ∀ {G : PH}, F1.le G → G.cell (Addr.mk b7 3 none) = some (vi a) := fun h => by rw [cell_eq (h _ _ q7), ← hxa]; rfl
  have hP1 := hP.le l7
  have c5 : ∀ {G : PH}, F1.le G → G.cell (Addr.mk b5 0 none) = some (.func (.func 46) #[] #[pa b1, pa b5]) := fun h => by rw [cell_eq (h _ _ hP1.q5)]; rfl
  refine ⟨x.k, by rw [cell_eq q7]; rfl, fun h => absurd h (by omega), fun _ => ⟨fun h => absurd h (by omega), fun _ => ⟨fun h => absurd h (by omega), fun _ => ⟨fun _ => ?_, fun h => absurd hk h⟩⟩⟩⟩
  refine ⟨_, rfl, _, c5 (le_refl' _), _, c1 (le_refl' _), 46, #[], _, rfl, cb46', ?_⟩
  refine (it (by omega) (least := 3) hP1 (by omega)).mono ?_
  rintro _ F2 ⟨⟨v, rfl, hv⟩, l2⟩
  have e1 := pr_length t.pat
  have hvs : v.size ≤ 1700000 := by
   rw [← bs_length, hv]
   have := par_length (t.pat.level < 3) t.pat.pr
   omega
  have s1 : (ByteArray.mk #[42]).size = 1 := rfl
  refine ⟨v, rfl, by rw [s1]; omega, ?_⟩
  refine show_j1 (lv := 3) (by rw [ByteArray.size_append, s1]; omega) fun r hr => ⟨?_, le_trans' l7 l2⟩
  rw [bs_append, hv, show bs (ByteArray.mk #[42]) = [42] from rfl] at hr
  exact hr
open Classical in
noncomputable def treeL (l : List Nd) : Lt := if h : GoodL l then (tree_ex h (l.length) (l.length - 1) (by have := List.length_pos_iff.2 h.ne; omega) (by have := List.length_pos_iff.2 h.ne; omega)).choose else .emp
theorem treeL_spec {l : List Nd} (h : GoodL l) : ∃ ns, TreeAt l (l.length - 1) (treeL l) ns := by
 unfold treeL
 rw [dif_pos h]
 exact (tree_ex h (l.length) (l.length - 1) (by have := List.length_pos_iff.2 h.ne; omega) (by have := List.length_pos_iff.2 h.ne; omega)).choose_spec
theorem chkP_zero {l : List Nd} (h : chkP l = 0) : GoodL l ∧ l.length ≤ 512 := by
 unfold chkP at h
 split at h
 ·omega
 ·split at h
  ·rename_i hg
   exact ⟨hg, by omega⟩
  ·omega
open Classical in
noncomputable def printR (l : List Nd) : List Nat × Int := if chkP l ≠ 0 then ([], chkP l) else ((treeL l).pat.pr, 0)
theorem print_spec {s : Sl} {l : List Nd} (hs : RdS F s 5 (nflat l)) : Spec prog 19 #[s.v] F fun r F' => (∃ v, r = .tuple #[v, vi (printR l).2] ∧ StrV v (printR l).1) ∧ F.le F' := by
 refine c19 ?_
 unfold b19
 intro b1 hb1
 refine atI ?_
 have l1 : F.le (F.set b1 (.cells #[s.v] 25)) := le_set_fresh _ hb1
 have q1 := set_eq F b1 (.cells #[s.v] 25)
 generalize F.set b1 (.cells #[s.v] 25) = F1 at *
 refine ⟨s, by rw [cell_eq q1]; rfl, ?_⟩
 refine (check_spec (hs.le l1)).mono ?_
 rintro _ F2 ⟨rfl, l2⟩
 refine ⟨_, rfl, fun h => ?_, fun h => ?_⟩
 ·have e : printR l = ([], chkP l) := by unfold printR; rw [if_pos h]
  rw [e]
  exact ⟨⟨_, rfl, _, rfl, rfl⟩, le_trans' l1 l2⟩
 ·have h0 : chkP l = 0 := by omega
  have e : printR l = ((treeL l).pat.pr, 0) := by unfold printR; rw [if_neg h]
  rw [e]
  obtain ⟨hG, hl⟩ := chkP_zero h0
  obtain ⟨ns, ht⟩ := treeL_spec hG
  intro b5 hb5
  refine atI ?_
  refine st1 (set_eq _ _ _) (by simp) ?_
  rw [set_twice]
  have l5 : F2.le (F2.set b5 (.cells #[.func (.func 46) #[] #[pa b1, pa b5]] 66)) := le_set_fresh _ hb5
  have q5 := set_eq F2 b5 (.cells #[.func (.func 46) #[] #[pa b1, pa b5]] 66)
  have e0 : (#[Value.nilFunc] : Array Value).setIfInBounds 0 (.func (.func 46) #[] #[pa b1, pa b5]) = #[.func (.func 46) #[] #[pa b1, pa b5]] := rfl
  rw [e0]
  generalize F2.set b5 (.cells #[.func (.func 46) #[] #[pa b1, pa b5]] 66) = F3 at *
  have hP : Prn F3 b1 b5 l := ⟨q5, s, l5 _ _ (l2 _ _ q1), hs.le (le_trans' (le_trans' l1 l2) l5)⟩
  refine ⟨_, by rw [cell_eq q5]; rfl, s, by rw [cell_eq (l5 _ _ (l2 _ _ q1))]; rfl, 46, #[], _, rfl, cb46', ?_⟩
  have hlen := hs.nlen
  have hne := List.length_pos_iff.2 hG.ne
  have ew : IntKind.i64.wrap ((s.len : Int) - 1) = ((l.length - 1 : Nat) : Int) := by rw [hlen, w64_eq (by omega) (by omega)]; omega
  rw [ew]
  refine (show_spec ht (by have := tree_small hG ht; omega) (least := 1) hP (by omega)).mono ?_
  rintro _ F4 ⟨⟨v, rfl, hv⟩, l4⟩
  refine ⟨v, rfl, ⟨_, rfl, v, rfl, ?_⟩, le_trans' (le_trans' (le_trans' l1 l2) l5) l4⟩
  rw [hv]
  unfold Pat.par
  have hlv : ¬ (treeL l).pat.level < 1 := by cases (treeL l).pat <;> simp [Pat.level]
  rw [if_neg (by simpa using hlv)]
end
end Go.Proofs.YtnjcgpihfmklfaaDoor
