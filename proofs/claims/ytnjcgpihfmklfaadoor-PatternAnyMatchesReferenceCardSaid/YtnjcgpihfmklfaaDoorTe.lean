/-
  PatternMatchesReference; the reference's Literal; PatternAnyMatchesReference.
-/
import Derived.Test.YtnjcgpihfmklfaaDoorQm
import Derived.Test.YtnjcgpihfmklfaaDoorGo
import Derived.Test.YtnjcgpihfmklfaaDoorQo
import Derived.Test.YtnjcgpihfmklfaaDoorQh
import Derived.Test.YtnjcgpihfmklfaaDoorQx
import Derived.Test.YtnjcgpihfmklfaaDoorSj
import Derived.Test.YtnjcgpihfmklfaaDoorGh
import Derived.Test.YtnjcgpihfmklfaaDoorSm
import Derived.Test.YtnjcgpihfmklfaaDoorGt
import Derived.Test.YtnjcgpihfmklfaaDoorGL13
namespace Go.Proofs.YtnjcgpihfmklfaaDoor
open Go Go.Proofs.Tryd
set_option maxRecDepth 10000
theorem ex_int {F : PH} {a : Addr} {y : Int} {K : Int → Prop} (h : F.cell a = some (vi y)) : (∃ v : Int, F.cell a = some (.int .i64 v) ∧ K v) ↔ K y :=
 ⟨fun ⟨v, hv, k⟩ => by rw [h] at hv; cases hv; exact k, fun k => ⟨y, h, k⟩⟩
theorem opsN_ar {k : Int} (h : 0 ≤ k ∧ k ≤ 4) : opsN k = ar k ∧ 0 ≤ ar k := by
 unfold opsN ar
 split
 ·exact ⟨rfl, by omega⟩
 ·split
  ·exact ⟨rfl, by omega⟩
  ·rw [if_pos (by omega)]; exact ⟨rfl, by omega⟩
theorem ar_known {k : Int} (h : 0 ≤ ar k) : 0 ≤ k ∧ k ≤ 4 := by have := ar_kinds h; omega
section
variable {F : PH}
theorem valid_ref {s : Sl} {l : List Nd} (hs : RdS F s 5 (nflat l)) {i : Nat} {x : Nd} (hx : l[i]? = some x) (hi9 : (i : Int) < 9223372036854775807) : Spec prog 51 #[s.v, vi i] F fun r F' => (∃ b : Bool, r = .bool b ∧ (b = true ↔ okN i x)) ∧ F.le F' := by
 obtain ⟨a, ha, hrow⟩ := rdn hs hx
 have hlen := hs.nlen
 have hi := (List.getElem?_eq_some_iff.1 hx).1
 refine c51 ?_
 unfold b51
 refine ⟨a, ha, by omega, by omega, x.arr, rfl, hrow, fun b5 hb5 => ?_⟩
 refine atI ?_
 refine stW (set_eq _ _ _) rfl rfl (st_narr x) ?_
 rw [set_twice]
 have l5 : F.le (F.set b5 (.cells x.arr 50)) := le_set_fresh _ hb5
 have q5 := set_eq F b5 (.cells x.arr 50)
 generalize F.set b5 (.cells x.arr 50) = F1 at *
 have c0 : F1.cell (Addr.mk b5 0 none) = some (vi x.k) := by rw [cell_eq q5]; rfl
 have c1 : F1.cell (Addr.mk b5 1 none) = some (vi x.lo) := by rw [cell_eq q5]; rfl
 have c2 : F1.cell (Addr.mk b5 2 none) = some (vi x.hi) := by rw [cell_eq q5]; rfl
 have c3 : F1.cell (Addr.mk b5 3 none) = some (vi x.a) := by rw [cell_eq q5]; rfl
 have c4 : F1.cell (Addr.mk b5 4 none) = some (vi x.b) := by rw [cell_eq q5]; rfl
 refine ⟨x.k, c0, ?_⟩
 refine (operands_spec F1 x.k).mono ?_
 rintro _ F2 ⟨rfl, e⟩
 obtain rfl := e.symm
 have K : ∀ b : Bool, (b = true ↔ okN i x) → (∃ b' : Bool, Value.bool b = .bool b' ∧ (b' = true ↔ okN i x)) ∧ F.le F1 := fun b hb => ⟨⟨b, rfl, hb⟩, l5⟩
 refine ⟨_, _, rfl, fun hk => K _ ?_, fun hk => ?_⟩
 ·have hk' : ¬ (0 ≤ x.k ∧ x.k ≤ 4) := by
   have : decide (0 ≤ x.k ∧ x.k ≤ 4) = false := by simpa only [knownK, Bool.not_eq_true'] using hk
   exact of_decide_eq_false this
  exact ⟨fun h => by (cases h), fun h => absurd (ar_known h.1) hk'⟩
 have hk' : 0 ≤ x.k ∧ x.k ≤ 4 := by simpa [knownK] using hk
 obtain ⟨hn, hn0⟩ := opsN_ar hk'
 rw [hn]
 clear hk hn
 have f1 : ∀ (P : Prop), ¬ P → (false = true ↔ P) := fun P h => ⟨fun h => by (cases h), fun h' => absurd h' h⟩
 have t1 : ∀ (P : Prop), P → (true = true ↔ P) := fun P h => ⟨fun _ => h, fun _ => rfl⟩
 -- the operands
 have j2 : (ar x.k < 1 → x.a = 0) → (ar x.k < 2 → x.b = 0) → (x.k = 1 → 0 ≤ x.lo ∧ x.lo ≤ x.hi ∧ x.hi ≤ 255) → (x.k ≠ 1 → x.lo = 0 ∧ x.hi = 0) → b51j2 i b5 (ar x.k) (fun r F' => (∃ b' : Bool, r = .bool b' ∧ (b' = true ↔ okN i x)) ∧ F.le F') F1 := fun ha hb h1 h2 => by
  have e : okN i x ↔ (1 ≤ ar x.k → 0 ≤ x.a ∧ x.a < i) ∧ (2 ≤ ar x.k → 0 ≤ x.b ∧ x.b < i) := ⟨fun h => ⟨h.2.2.2.2.2.1, h.2.2.2.2.2.2⟩, fun h => ⟨hn0, h1, h2, ha, hb, h.1, h.2⟩⟩
  unfold b51j2
  simp only [ex_int c3, ex_int c4]
  refine ⟨fun h => ⟨fun h' => K _ (t1 _ (e.2 ⟨by omega, by omega⟩)), fun h' => absurd h' (by omega)⟩, fun h => ⟨fun h3 => ⟨fun h4 => ⟨fun h5 => K _ (t1 _ (e.2 ⟨fun _ => ⟨h3, h4⟩, by omega⟩)), fun h5 => ⟨fun h6 => K _ ?_, fun h6 => K _ (f1 _ fun ho => h6 ((e.1 ho).2 (by omega)).1)⟩⟩, fun h4 => K _ (f1 _ fun ho => h4 ((e.1 ho).1 (by omega)).2)⟩, fun h3 => K _ (f1 _ fun ho => h3 ((e.1 ho).1 (by omega)).1)⟩⟩
  rw [decide_eq_true_eq, e]
  exact ⟨fun h7 => ⟨fun _ => ⟨h3, h4⟩, fun _ => ⟨h6, h7⟩⟩, fun h7 => (h7.2 (by omega)).2⟩
 have j1 : (x.k = 1 → 0 ≤ x.lo ∧ x.lo ≤ x.hi ∧ x.hi ≤ 255) → (x.k ≠ 1 → x.lo = 0 ∧ x.hi = 0) → b51j1 i b5 (ar x.k) (fun r F' => (∃ b' : Bool, r = .bool b' ∧ (b' = true ↔ okN i x)) ∧ F.le F') F1 := fun h1 h2 => by
  unfold b51j1
  simp only [ex_int c3, ex_int c4]
  refine ⟨fun h => ⟨fun h3 => K _ (f1 _ fun ho => h3 (ho.2.2.2.1 h)), fun h3 => ⟨fun h4 => ⟨fun h5 => K _ (f1 _ fun ho => h5 (ho.2.2.2.2.1 h4)), fun h5 => j2 (fun _ => by omega) (fun _ => by omega) h1 h2⟩, fun h4 => absurd h4 (by omega)⟩⟩, fun h => ⟨fun h4 => ⟨fun h5 => K _ (f1 _ fun ho => h5 (ho.2.2.2.2.1 h4)), fun h5 => j2 (fun h => by omega) (fun _ => by omega) h1 h2⟩, fun h4 => j2 (fun h => by omega) (fun h => by omega) h1 h2⟩⟩
 simp only [ex_int c0, ex_int c1, ex_int c2]
 refine ⟨fun h => ⟨fun h1 => K _ (f1 _ fun ho => h1 (ho.2.2.1 h).1), fun h1 => ⟨fun h2 => K _ (f1 _ fun ho => h2 (ho.2.2.1 h).2), fun h2 => ⟨fun h3 => absurd h3 (by omega), fun h3 => ⟨fun h4 => absurd h4 (by omega), fun h4 => ⟨fun h5 => absurd h5 (by omega), fun h5 => j1 (fun h6 => absurd h6 h) (fun _ => ⟨by omega, by omega⟩)⟩⟩⟩⟩⟩,
  fun h => ⟨fun h1 => K _ (f1 _ fun ho => by have := ho.2.1 (by omega); omega), fun h1 => ⟨fun h2 => K _ (f1 _ fun ho => by have := ho.2.1 (by omega); omega), fun h2 => ⟨fun h3 => K _ (f1 _ fun ho => by have := ho.2.1 (by omega); omega), fun h3 => j1 (fun _ => ⟨by omega, by omega, by omega⟩) (fun h6 => absurd (by omega) h6)⟩⟩⟩⟩
def cnts (n : Nat) (W : List Int) : List Value := (List.range n).map fun (i : Nat) => vi (W.count (i : Int) : Nat)
theorem cnts_get {n : Nat} {W : List Int} {i : Nat} (hi : i < n) : (cnts n W).toArray[i]? = some (vi (W.count (i : Int) : Nat)) := by
 simp [cnts, hi]
theorem cnts_set (n : Nat) (W : List Int) (i : Nat) (hi : i < n) : (cnts n W).toArray.setIfInBounds i (vi ((W.count (i : Int) + 1 : Nat) : Int)) = (cnts n ((i : Int) :: W)).toArray := by
 apply Array.ext'
 rw [Array.toList_setIfInBounds]
 apply List.ext_getElem?
 intro j
 rw [List.getElem?_set]
 simp only [cnts, List.length_map, List.length_range, List.getElem?_map]
 by_cases h : i = j
 ·subst h
  rw [if_pos rfl, if_pos hi, List.getElem?_range hi]
  simp
 ·rw [if_neg h]
  by_cases hj : j < n
  ·rw [List.getElem?_range hj]
   simp only [Option.map_some]
   rw [List.count_cons_of_ne (by omega)]
  ·rw [List.getElem?_eq_none (by simp; omega)]
   rfl
structure Cnt (F0 F : PH) (u n : Nat) (W : List Int) : Prop where
 zu : F0 u = none
 le : F0.le F
 qu : F u = some (.cells (cnts n W).toArray 3)
theorem Cnt.cell {F0 F : PH} {u n : Nat} {W : List Int} (h : Cnt F0 F u n W) {k : Int} (h0 : 0 ≤ k) (h1 : k < n) : F.cell ((Addr.mk u 0 none).add (Int.toNat k * 1)) = some (vi (W.count k : Nat)) := by
 obtain ⟨i, rfl⟩ := Int.eq_ofNat_of_zero_le h0
 rw [Int.toNat_natCast, Nat.mul_one, show (Addr.mk u 0 none).add i = ⟨u, i, none⟩ by simp [Addr.add, Nat.zero_add]; omega, cell_eq h.qu]
 exact cnts_get (by omega)
theorem Cnt.inc {F0 F : PH} {u n : Nat} {W : List Int} (h : Cnt F0 F u n W) {k : Int} (h0 : 0 ≤ k) (h1 : k < n) (hW : W.length ≤ 100000) {K : PH → Prop} (hk : ∀ F', Cnt F0 F' u n (k :: W) → K F') :
  ∃ c e, F (Addr.add (Addr.mk u 0 none) (Int.toNat k * 1)).block = some (.cells c e (0, 0)) ∧ (Addr.add (Addr.mk u 0 none) (Int.toNat k * 1)).spot = none ∧ (Addr.add (Addr.mk u 0 none) (Int.toNat k * 1)).off < c.size ∧
   atF (F.set (Addr.add (Addr.mk u 0 none) (Int.toNat k * 1)).block (.cells (c.setIfInBounds (Addr.add (Addr.mk u 0 none) (Int.toNat k * 1)).off (.int .i64 (IntKind.i64.wrap ((W.count k : Nat) + (1 : Int))))) e)) K := by
 obtain ⟨i, rfl⟩ := Int.eq_ofNat_of_zero_le h0
 have hc : W.count (i : Int) ≤ W.length := List.count_le_length
 rw [w64s (by omega)]
 refine st1' (b := u) (o := i) (by rw [Int.toNat_natCast, Nat.mul_one]; simp [Addr.add]; omega) h.qu (by simp [cnts]; omega) ?_
 rw [cnts_set n W i (by omega)]
 exact hk _ ⟨h.zu, le_set_new h.le h.zu, set_eq _ _ _⟩
theorem usL_len : ∀ (l : List Nd), (usL l).length ≤ 2 * l.length
 | [] => Nat.le_refl _
 | x :: l => by
  have := usL_len l
  have : (us x).length ≤ 2 := by unfold us; split <;> (try split) <;> simp
  simp only [usL, List.length_append, List.length_cons]
  omega
def OkTo (l : List Nd) (j : Nat) : Prop := ∀ i x, i < j → l[i]? = some x → okN i x
theorem usL_bound {l : List Nd} {j : Nat} (h : OkTo l j) : ∀ k ∈ usL (l.take j), 0 ≤ k ∧ k + 1 < j := by
 induction j with
 | zero => intro k hk; simp [usL] at hk
 | succ j ih =>
  intro k hk
  by_cases hj : j < l.length
  ·have hx := List.getElem?_eq_getElem hj
   have ho := h j _ (by omega) hx
   rw [List.take_add_one, hx] at hk
   simp only [Option.toList_some, usL_snoc, List.mem_append] at hk
   rcases hk with hk | hk
   ·unfold us at hk
    obtain ⟨h0, h1, h2, h3, h4, h5, h6⟩ := ho
    split at hk
    ·rename_i h2'
     have := h5 (by omega)
     have := h6 (by omega)
     simp at hk
     rcases hk with rfl | rfl <;> omega
    ·split at hk
     ·rename_i h1'
      have := h5 (by omega)
      simp at hk
      subst hk
      omega
     ·simp at hk
   ·have := ih (fun i x hi => h i x (by omega)) k hk
    omega
  ·rw [List.take_of_length_le (by omega)] at hk
   have := ih (fun i x hi => h i x (by omega)) k (by rw [List.take_of_length_le (by omega)]; exact hk)
   omega
theorem good_cnt {l : List Nd} (h : OkTo l l.length) : GoodL l ↔ l ≠ [] ∧ ∀ i : Nat, i + 1 < l.length → (usL l).count (i : Int) = 1 := by
 have hb := usL_bound h
 rw [List.take_length] at hb
 constructor
 ·rintro ⟨h1, h2, h3, h4⟩
  refine ⟨h1, fun i hi => ?_⟩
  have := List.nodup_iff_count.1 h3 (i : Int)
  have := List.count_pos_iff.2 (h4 i hi)
  omega
 ·rintro ⟨h1, h2⟩
  refine ⟨h1, fun i x hx => h i x (List.getElem?_eq_some_iff.1 hx).1 hx, List.nodup_iff_count.2 fun a => ?_, fun i hi => List.count_pos_iff.1 (by rw [h2 i hi]; decide)⟩
  by_cases ha : a ∈ usL l
  ·obtain ⟨a0, a1⟩ := hb a ha
   obtain ⟨k, rfl⟩ := Int.eq_ofNat_of_zero_le a0
   rw [h2 k (by omega)]
   exact Nat.le_refl _
  ·rw [List.count_eq_zero.2 ha]
   omega
theorem sz3r : tsz prog 3 = some (1, 8) := by kernel_rfl
theorem zr3r : tzero prog 3 = some (.int .i64 0) := by kernel_rfl
theorem u53r : prog.underlying 53 = some (.slice 3) := by kernel_rfl
theorem refcheck_spec {s : Sl} {l : List Nd} (hs : RdS F s 5 (nflat l)) : Spec prog 22 #[s.v] F fun r F' => r = vi (chkP l) ∧ F.le F' := by
 have hlen := hs.nlen
 refine c22 ?_
 unfold b22
 refine ⟨fun h => ⟨?_, le_refl' F⟩, fun h => ?_⟩
 ·have e : chkP l = 2 := by unfold chkP; rw [if_pos (by omega)]
  rw [e]
 have hl : l.length ≤ 512 := by omega
 refine runs_makeSlice u53r sz3r zr3r rfl (by omega) (Int.le_refl _) (by omega) (by omega) ?_
 intro u hu
 rw [zc1 _ rfl, Int.toNat_natCast, hlen]
 have em : (List.replicate l.length (Value.int .i64 0)).toArray = (cnts l.length []).toArray := by
  congr 1
  apply List.ext_getElem?
  intro j
  by_cases hj : j < l.length
  ·simp [cnts, hj]
  ·rw [List.getElem?_eq_none (by simp; omega), List.getElem?_eq_none (by simp [cnts]; omega)]
 rw [em]
 refine ⟨_, rfl, ?_⟩
 have hU : Cnt F (F.set u (.cells (cnts l.length []).toArray 3)) u l.length [] := ⟨hu, le_set_fresh _ hu, set_eq _ _ _⟩
 generalize F.set u (.cells (cnts l.length []).toArray 3) = F1 at *
 have bad : ∀ {F' : PH}, ¬ GoodL l → F.le F' → vi 40 = vi (chkP l) ∧ F.le F' := fun h hl' => ⟨by rw [chkP_bad hl h], hl'⟩
 refine ⟨fun m i F' => ∃ j : Nat, i = j ∧ j ≤ l.length ∧ m = l.length - j ∧ OkTo l j ∧ Cnt F F' u l.length (usL (l.take j)), l.length, ⟨0, rfl, by omega, rfl, fun i x hi => by omega, by simpa [usL] using hU⟩, ?_⟩
 clear hU
 rintro _ _ F2 ⟨j, rfl, hj, rfl, hg, hW⟩
 unfold b22L2
 refine ⟨fun hlt => ?_, fun hge => ?_⟩
 ·have hjl : j < l.length := by omega
  have hx : l[j]? = some l[j] := List.getElem?_eq_getElem hjl
  generalize l[j] = x at hx
  refine (valid_ref (hs.le hW.le) hx (by omega)).mono ?_
  rintro _ F3 ⟨⟨b, rfl, hb⟩, l3⟩
  have hW3 : Cnt F F3 u l.length (usL (l.take j)) := ⟨hW.zu, le_trans' hW.le l3, l3 _ _ hW.qu⟩
  refine ⟨b, rfl, fun hbf => bad (fun hG => ?_) hW3.le, fun hbt => ?_⟩
  ·have := hb.2 (hG.ok j x hx)
   rw [this] at hbf
   cases hbf
  have hok : okN j x := hb.1 (by simpa using hbt)
  have hok1 : OkTo l (j + 1) := fun i y hi hy => by
   by_cases hij : i = j
   ·subst hij; rw [hx] at hy; cases hy; exact hok
   ·exact hg i y (by omega) hy
  obtain ⟨a, ha, hrow⟩ := rdn (hs.le hW3.le) hx
  have hk4 := ar_known hok.1
  obtain ⟨hn, hn0⟩ := opsN_ar hk4
  have cl : ∀ {F' : PH}, F.le F' → ∀ (o : Nat) (y : Value), o < 5 → x.arr[o]? = some y → F'.cell ((a.add (j * 5)).add o) = some y := fun hle o y ho hy => by
   obtain ⟨a', ha', hrow'⟩ := rdn (hs.le hle) hx
   rw [ha] at ha'
   cases ha'
   have := hrow' o (by show o < 5; exact ho)
   rw [this]
   rw [← hy]
   exact (Array.getElem?_eq_getElem (xs := x.arr) (i := o) _).symm
  refine ⟨a, ha, by omega, by omega, x.k, by have := cl hW3.le 0 (vi x.k) (by omega) rfl; exact this, ?_⟩
  refine (operands_spec F3 x.k).mono ?_
  rintro _ F4 ⟨rfl, e⟩
  obtain rfl := e.symm
  refine ⟨_, _, rfl, ?_⟩
  rw [hn]
  have hlen2 : (usL (l.take j)).length ≤ 1024 := by have := usL_len (l.take j); rw [List.length_take] at this; omega
  have fin : ∀ F', Cnt F F' u l.length (us x ++ usL (l.take j)) → b22j3 (fun y2_0 F_1 => ∃ m', m' < l.length - j ∧ ∃ j : Nat, y2_0 = j ∧ j ≤ l.length ∧ m' = l.length - j ∧ OkTo l j ∧ Cnt F F_1 u l.length (usL (l.take j))) s ⟨some ⟨u, 0, none⟩, l.length, l.length⟩ j (fun r F' => r = vi (chkP l) ∧ F.le F') F' := fun F' hF' => by
   unfold b22j3
   refine ⟨l.length - (j + 1), by omega, j + 1, w64s (by omega), hjl, rfl, hok1, ?_⟩
   rw [List.take_add_one, hx]
   show Cnt F F' u l.length (usL (l.take j ++ [x]))
   rw [usL_snoc]
   exact hF'
  refine ⟨fun h1 => ?_, fun h1 => ?_⟩
  ·obtain ⟨a0, a1⟩ := hok.2.2.2.2.2.1 h1
   refine ⟨a, ha, by omega, by omega, x.a, cl hW3.le 3 (vi x.a) (by omega) rfl, _, rfl, a0, by simp only; omega, _, hW3.cell a0 (by omega), _, rfl, a0, by simp only; omega, ?_⟩
   refine hW3.inc a0 (by omega) (by omega) fun F5 hW5 => ?_
   unfold b22j4
   refine ⟨fun h2 => ?_, fun h2 => ?_⟩
   ·obtain ⟨b0, b1⟩ := hok.2.2.2.2.2.2 h2
    refine ⟨a, ha, by omega, by omega, x.b, cl hW5.le 4 (vi x.b) (by omega) rfl, _, rfl, b0, by simp only; omega, _, hW5.cell b0 (by omega), _, rfl, b0, by simp only; omega, ?_⟩
    refine hW5.inc b0 (by omega) (by simp only [List.length_cons]; omega) fun F6 hW6 => fin F6 ?_
    have : us x = [x.b, x.a] := by unfold us; rw [if_pos h2]
    rw [this]
    exact hW6
   ·refine fin F5 ?_
    have : us x = [x.a] := by unfold us; rw [if_neg h2, if_pos h1]
    rw [this]
    exact hW5
  ·unfold b22j4
   refine ⟨fun h2 => absurd h2 (by omega), fun h2 => fin F3 ?_⟩
   have : us x = [] := by unfold us; rw [if_neg h2, if_neg h1]
   rw [this]
   exact hW3
 ·obtain rfl : j = l.length := by omega
  rw [List.take_length] at hW
  have hgc := good_cnt hg
  unfold b22j1
  have ew : IntKind.i64.wrap ((s.len : Int) - 1) = (l.length : Int) - 1 := by rw [hlen, w64_eq (by omega) (by omega)]
  refine ⟨fun m i F' => ∃ j : Nat, i = j ∧ j ≤ l.length ∧ m = l.length - j ∧ F' = F2 ∧ ∀ i : Nat, i < j → (usL l).count (i : Int) = 1, l.length, ⟨0, rfl, by omega, rfl, rfl, fun i hi => by omega⟩, ?_⟩
  rintro _ _ F3 ⟨j, rfl, hj', rfl, e3, hall⟩
  obtain rfl := e3.symm
  unfold b22L1
  rw [ew]
  refine ⟨fun hlt => ?_, fun hge => ?_⟩
  ·refine ⟨_, rfl, by omega, by simp only; omega, _, hW.cell (k := (j : Int)) (by omega) (by omega), fun hm => bad (fun hG => ?_) hW.le, fun hm => ⟨l.length - (j + 1), by omega, j + 1, w64s (by omega), by omega, rfl, rfl, fun i hi => ?_⟩⟩
   ·have := (hgc.1 hG).2 j (by omega)
    rw [this] at hm
    exact hm rfl
   ·by_cases hij : i = j
    ·subst hij
     omega
    ·exact hall i (by omega)
  ·unfold b22j2
   refine ⟨fun h0 => bad (fun hG => hG.ne (List.length_eq_zero_iff.1 (by omega))) hW.le, fun h0 => ⟨?_, hW.le⟩⟩
   rw [chkP_good hl (hgc.2 ⟨fun e => by rw [e] at hlen; simp at hlen; omega, fun i hi => hall i (by omega)⟩)]
end
theorem hex_bs : bs (ByteArray.mk #[48, 49, 50, 51, 52, 53, 54, 55, 56, 57, 97, 98, 99, 100, 101, 102]) = [48, 49, 50, 51, 52, 53, 54, 55, 56, 57, 97, 98, 99, 100, 101, 102] := rfl
theorem hex_cut {k : Nat} (hk : k < 16) : bs ((ByteArray.mk #[48, 49, 50, 51, 52, 53, 54, 55, 56, 57, 97, 98, 99, 100, 101, 102]).extract k (k + 1)) = [hexD k] := by
 rw [bs_extract, hex_bs]
 have : k = 0 ∨ k = 1 ∨ k = 2 ∨ k = 3 ∨ k = 4 ∨ k = 5 ∨ k = 6 ∨ k = 7 ∨ k = 8 ∨ k = 9 ∨ k = 10 ∨ k = 11 ∨ k = 12 ∨ k = 13 ∨ k = 14 ∨ k = 15 := by omega
 rcases this with rfl | rfl | rfl | rfl | rfl | rfl | rfl | rfl | rfl | rfl | rfl | rfl | rfl | rfl | rfl | rfl <;> rfl
section
variable {F : PH}
theorem refchs_spec (b : Nat) (hb : b < 256) : Spec prog 75 #[vi b] F fun r F' => StrV r (chS b) ∧ F.le F' := by
 refine c75 ?_
 unfold b75
 rw [wu8_eq (by omega) (by omega)]
 refine (plain_ref b).mono ?_
 rintro _ F' ⟨rfl, e⟩
 obtain rfl := e.symm
 refine ⟨_, rfl, fun hp => ?_, fun hp => ?_⟩
 ·intro b8 hb8
  refine atI ?_
  have q := set_eq F b8 (.cells #[.int .u8 b] 5)
  refine ⟨mkS [b], bts_rdo (RdS.new q rfl rfl (Nat.le_refl _)), ⟨_, rfl, ?_⟩, le_set_fresh _ hb8⟩
  rw [bs_mkS (by simp; omega)]
  unfold chS
  rw [if_pos hp]
 ·have e1 : IntKind.i64.wrap (Int.tdiv (b : Int) 16) = ((b / 16 : Nat) : Int) := by
   rw [show Int.tdiv (b : Int) 16 = ((b / 16 : Nat) : Int) from rfl, w64_eq (by omega) (by omega)]
  have e2 : Int.tmod (b : Int) 16 = ((b % 16 : Nat) : Int) := rfl
  have hs : (ByteArray.mk #[48, 49, 50, 51, 52, 53, 54, 55, 56, 57, 97, 98, 99, 100, 101, 102]).size = 16 := rfl
  have h1 : b / 16 < 16 := by omega
  have h2 : b % 16 < 16 := by omega
  rw [e1, e2, w64s (by omega), w64s (by omega)]
  simp only [Int.toNat_natCast]
  have z1 := hex_cut h1
  have z2 := hex_cut h2
  generalize ((ByteArray.mk #[48, 49, 50, 51, 52, 53, 54, 55, 56, 57, 97, 98, 99, 100, 101, 102]).extract (b / 16) (b / 16 + 1)) = x1 at z1
  generalize ((ByteArray.mk #[48, 49, 50, 51, 52, 53, 54, 55, 56, 57, 97, 98, 99, 100, 101, 102]).extract (b % 16) (b % 16 + 1)) = x2 at z2
  have n1 : x1.size = 1 := by rw [← bs_length, z1]; rfl
  have n2 : x2.size = 1 := by rw [← bs_length, z2]; rfl
  have n3 : (ByteArray.mk #[92, 120]).size = 2 := rfl
  refine ⟨by omega, by omega, by omega, by rw [hs]; omega, by omega, by omega, by omega, by omega, by rw [hs]; omega, by rw [ByteArray.size_append]; omega, ⟨_, rfl, ?_⟩, le_refl' F⟩
  rw [bs_append, bs_append, z1, z2]
  unfold chS
  rw [if_neg (by simp [hp])]
  rfl
theorem level_kind {l : List Nd} {i : Nat} {t : Lt} {ns : List Nat} (h : TreeAt l i t ns) : ∃ x, l[i]? = some x ∧ (t.pat.level < 2 ↔ x.k = 3) ∧ (t.pat.level < 3 ↔ x.k = 3 ∨ x.k = 2) := by
 cases h with
 | emp hx hk => exact ⟨_, hx, by simp [Lt.pat, Pat.level]; omega, by simp [Lt.pat, Pat.level]; omega⟩
 | rng hx hk => exact ⟨_, hx, by simp [Lt.pat, Pat.level]; omega, by simp [Lt.pat, Pat.level]; omega⟩
 | seq hx hk => exact ⟨_, hx, by simp [Lt.pat, Pat.level]; omega, by simp [Lt.pat, Pat.level]; omega⟩
 | alt hx hk => exact ⟨_, hx, by simp [Lt.pat, Pat.level]; omega, by simp [Lt.pat, Pat.level]; omega⟩
 | rep hx hk => exact ⟨_, hx, by simp [Lt.pat, Pat.level]; omega, by simp [Lt.pat, Pat.level]; omega⟩
theorem group_ref {s : Sl} {i : Nat} {w : List Nat} {p : Prop} [Decidable p] {b : Bool} (hb : b = true ↔ p) (hw : w.length ≤ 2000000) (h : Spec prog 48 #[s.v, vi i] F fun r F' => StrV r w ∧ F.le F') :
  Spec prog 76 #[s.v, vi i, .bool b] F fun r F' => StrV r (Pat.par p w) ∧ F.le F' := by
 refine c76 ?_
 unfold b76
 have s1 : (ByteArray.mk #[40]).size = 1 := rfl
 have s2 : (ByteArray.mk #[41]).size = 1 := rfl
 refine ⟨fun hbt => ?_, fun hbf => ?_⟩
 ·refine h.mono ?_
  rintro _ F' ⟨⟨v, rfl, hv⟩, hl⟩
  have hvs : v.size ≤ 2000000 := by rw [← bs_length, hv]; exact hw
  refine ⟨v, rfl, by rw [s1]; omega, by rw [ByteArray.size_append, s1, s2]; omega, ⟨_, rfl, ?_⟩, hl⟩
  rw [bs_append, bs_append, hv]
  unfold Pat.par
  rw [if_pos (by simpa using hb.1 hbt)]
  rfl
 ·refine h.mono ?_
  rintro _ F' ⟨⟨v, rfl, hv⟩, hl⟩
  refine ⟨v, rfl, ⟨_, rfl, ?_⟩, hl⟩
  unfold Pat.par
  rw [if_neg (by
   have : ¬ p := fun hp => by rw [hb.2 hp] at hbf; cases hbf
   simpa using this)]
  exact hv
theorem rdk {F : PH} {s : Sl} {l : List Nd} (hs : RdS F s 5 (nflat l)) {a : Addr} (ha : s.base = some a) {j : Nat} {y : Nd} (hy : l[j]? = some y) : F.cell (a.add (Int.toNat (j : Int) * 5)) = some (vi y.k) := by
 obtain ⟨a', ha', hrow⟩ := rdn hs hy
 rw [ha] at ha'
 cases ha'
 exact hrow 0 (by show 0 < 5; omega)
theorem text_ref {l : List Nd} (hG : GoodL l) {s : Sl} {i : Nat} {t : Lt} {ns : List Nat} (h : TreeAt l i t ns) : t.pat.size ≤ 100000 → ∀ {F : PH}, RdS F s 5 (nflat l) →
  Spec prog 48 #[s.v, vi i] F fun r F' => StrV r t.pat.pr ∧ F.le F' := by
 induction h with
 | @emp i x hx hk =>
  intro _ F hs
  have hlen := hs.nlen
  have hi := (List.getElem?_eq_some_iff.1 hx).1
  obtain ⟨_, _, _, oa, ob, _, _⟩ := hG.ok i x hx
  have har := ar_zero (.inl hk)
  have xa := oa (by omega)
  have xb := ob (by omega)
  obtain ⟨a, ha, hrow⟩ := rdn hs hx
  have h0 : l[0]? = some l[0] := List.getElem?_eq_getElem (by omega)
  generalize l[0] = x0 at h0
  refine c48 ?_
  unfold b48
  refine ⟨a, ha, by omega, by omega, x.arr, rfl, hrow, fun b7 hb7 => ?_⟩
  refine atI ?_
  refine stW (set_eq _ _ _) rfl rfl (st_narr x) ?_
  rw [set_twice]
  have l7 : F.le (F.set b7 (.cells x.arr 50)) := le_set_fresh _ hb7
  have q7 := set_eq F b7 (.cells x.arr 50)
  generalize F.set b7 (.cells x.arr 50) = F1 at *
  have kd : ∀ {j : Nat} {y : Nd}, l[j]? = some y → F1.cell (a.add (Int.toNat (j : Int) * 5)) = some (vi y.k) := fun hy => rdk (hs.le l7) ha hy
  refine ⟨_, by rw [cell_eq q7]; rfl, a, ha, by omega, by omega, x0.k, by rw [xa]; exact kd (j := 0) h0, _, by rw [cell_eq q7]; rfl, a, ha, by omega, by omega, x0.k, by rw [xb]; exact kd (j := 0) h0, x.k, by rw [cell_eq q7]; rfl, ?_⟩
  exact ⟨fun h => absurd h (by omega), fun _ => ⟨fun h => absurd h (by omega), fun _ => ⟨fun h => absurd h (by omega), fun _ => ⟨fun h => absurd h (by omega), fun _ => ⟨⟨_, rfl, rfl⟩, l7⟩⟩⟩⟩⟩
 | @rng i lo hi x hx hk hlo hhi hle h255 =>
  intro _ F hs
  have hlen := hs.nlen
  have hi' := (List.getElem?_eq_some_iff.1 hx).1
  obtain ⟨_, _, _, oa, ob, _, _⟩ := hG.ok i x hx
  have har := ar_zero (.inr hk)
  have xa := oa (by omega)
  have xb := ob (by omega)
  obtain ⟨a, ha, hrow⟩ := rdn hs hx
  have h0 : l[0]? = some l[0] := List.getElem?_eq_getElem (by omega)
  generalize l[0] = x0 at h0
  refine c48 ?_
  unfold b48
  refine ⟨a, ha, by omega, by omega, x.arr, rfl, hrow, fun b7 hb7 => ?_⟩
  refine atI ?_
  refine stW (set_eq _ _ _) rfl rfl (st_narr x) ?_
  rw [set_twice]
  have l7 : F.le (F.set b7 (.cells x.arr 50)) := le_set_fresh _ hb7
  have q7 := set_eq F b7 (.cells x.arr 50)
  generalize F.set b7 (.cells x.arr 50) = F1 at *
  have kd : ∀ {j : Nat} {y : Nd}, l[j]? = some y → F1.cell (a.add (Int.toNat (j : Int) * 5)) = some (vi y.k) := fun hy => rdk (hs.le l7) ha hy
  have c1 : ∀ {G : PH}, F1.le G → G.cell (Addr.mk b7 1 none) = some (vi lo) := fun h => by rw [cell_eq (h _ _ q7), ← hlo]; rfl
  have c2 : ∀ {G : PH}, F1.le G → G.cell (Addr.mk b7 2 none) = some (vi hi) := fun h => by rw [cell_eq (h _ _ q7), ← hhi]; rfl
  refine ⟨_, by rw [cell_eq q7]; rfl, a, ha, by omega, by omega, x0.k, by rw [xa]; exact kd (j := 0) h0, _, by rw [cell_eq q7]; rfl, a, ha, by omega, by omega, x0.k, by rw [xb]; exact kd (j := 0) h0, x.k, by rw [cell_eq q7]; rfl, ?_⟩
  refine ⟨fun _ => ?_, fun h => absurd hk h⟩
  refine ⟨_, c1 (le_refl' _), _, c2 (le_refl' _), fun he => ⟨_, c1 (le_refl' _), ?_⟩, fun hne => ⟨_, c1 (le_refl' _), _, c2 (le_refl' _), ?_⟩⟩
  ·refine (refchs_spec lo (by omega)).mono ?_
   rintro _ F2 ⟨⟨u, rfl, hu⟩, l2⟩
   refine ⟨u, rfl, ⟨_, rfl, ?_⟩, le_trans' l7 l2⟩
   simp only [Lt.pat, Pat.pr]
   rw [if_neg (by omega)]
   exact hu
  ·refine (refchs_spec lo (by omega)).mono ?_
   rintro _ F2 ⟨⟨u, rfl, hu⟩, l2⟩
   have hus : u.size ≤ 4 := by rw [← bs_length, hu]; exact chS_length lo
   have s1 : (ByteArray.mk #[91]).size = 1 := rfl
   have s2 : (ByteArray.mk #[45]).size = 1 := rfl
   have s3 : (ByteArray.mk #[93]).size = 1 := rfl
   refine ⟨u, rfl, c2 l2, by rw [s1]; omega, by rw [ByteArray.size_append, s1, s2]; omega, ?_⟩
   refine (refchs_spec hi (by omega)).mono ?_
   rintro _ F3 ⟨⟨w, rfl, hw⟩, l3⟩
   have hws : w.size ≤ 4 := by rw [← bs_length, hw]; exact chS_length hi
   refine ⟨w, rfl, by simp only [ByteArray.size_append, s1, s2]; omega, by simp only [ByteArray.size_append, s1, s2, s3]; omega, ⟨_, rfl, ?_⟩, le_trans' l7 (le_trans' l2 l3)⟩
   simp only [bs_append, hu, hw, Lt.pat, Pat.pr]
   rw [if_pos (by omega)]
   rw [show bs (ByteArray.mk #[91]) = [91] from rfl, show bs (ByteArray.mk #[45]) = [45] from rfl, show bs (ByteArray.mk #[93]) = [93] from rfl]
   simp
 | @seq i a b x t u na nb hx hk hxa hxb ht hu it iu =>
  intro hsz F hs
  simp only [Lt.pat, Pat.size] at hsz
  have hlen := hs.nlen
  have hi' := (List.getElem?_eq_some_iff.1 hx).1
  obtain ⟨y, hy, hy2, hy3⟩ := level_kind ht
  obtain ⟨z, hz, hz2, hz3⟩ := level_kind hu
  have ha' := (List.getElem?_eq_some_iff.1 hy).1
  have hb' := (List.getElem?_eq_some_iff.1 hz).1
  obtain ⟨ad, had, hrow⟩ := rdn hs hx
  refine c48 ?_
  unfold b48
  refine ⟨ad, had, by omega, by omega, x.arr, rfl, hrow, fun b7 hb7 => ?_⟩
  refine atI ?_
  refine stW (set_eq _ _ _) rfl rfl (st_narr x) ?_
  rw [set_twice]
  have l7 : F.le (F.set b7 (.cells x.arr 50)) := le_set_fresh _ hb7
  have q7 := set_eq F b7 (.cells x.arr 50)
  generalize F.set b7 (.cells x.arr 50) = F1 at *
  have kd : ∀ {j : Nat} {y : Nd}, l[j]? = some y → F1.cell (ad.add (Int.toNat (j : Int) * 5)) = some (vi y.k) := fun hy => rdk (hs.le l7) had hy
  have c1 : ∀ {G : PH}, F1.le G → G.cell (Addr.mk b7 3 none) = some (vi a) := fun h => by rw [cell_eq (h _ _ q7), ← hxa]; rfl
  have c2 : ∀ {G : PH}, F1.le G → G.cell (Addr.mk b7 4 none) = some (vi b) := fun h => by rw [cell_eq (h _ _ q7), ← hxb]; rfl
  have e1 := pr_length t.pat
  have e2 := pr_length u.pat
  have p1 := par_length (t.pat.level < 2) t.pat.pr
  have p2 := par_length (u.pat.level < 3) u.pat.pr
  refine ⟨_, c1 (le_refl' _), ad, had, by omega, by omega, y.k, kd hy, _, c2 (le_refl' _), ad, had, by omega, by omega, z.k, kd hz, x.k, by rw [cell_eq q7]; rfl, ?_⟩
  refine ⟨fun h => absurd h (by omega), fun _ => ⟨fun _ => ?_, fun h => absurd hk h⟩⟩
  refine ⟨_, c1 (le_refl' _), _, c2 (le_refl' _), ?_⟩
  refine (group_ref (p := t.pat.level < 2) (by rw [decide_eq_true_eq, hy2]) (by omega) (it (by omega) (hs.le l7))).mono ?_
  rintro _ F2 ⟨⟨v, rfl, hv⟩, l2⟩
  have hvs : v.size ≤ 1700000 := by rw [← bs_length, hv]; omega
  have fin : ∀ (bb : Bool), (bb = true ↔ u.pat.level < 3) → Spec prog 76 #[s.v, vi b, .bool bb] F2 fun v_1 F_1 => ∃ w : ByteArray, v_1 = .string w ∧ v.size + w.size ≤ 9223372036854775807 ∧ StrV (.string (v ++ w)) (Lt.seq t u).pat.pr ∧ F.le F_1 := fun bb hbb => by
   refine (group_ref (p := u.pat.level < 3) hbb (by omega) (iu (by omega) (hs.le (le_trans' l7 l2)))).mono ?_
   rintro _ F3 ⟨⟨w, rfl, hw⟩, l3⟩
   have hws : w.size ≤ 1700000 := by rw [← bs_length, hw]; omega
   refine ⟨w, rfl, by omega, ⟨_, rfl, ?_⟩, le_trans' l7 (le_trans' l2 l3)⟩
   rw [bs_append, hv, hw]
   rfl
  exact ⟨v, rfl, c2 l2, fun h3 => fin true (by simp [hz3, h3]), fun h3 => fin _ (by rw [decide_eq_true_eq, hz3]; omega)⟩
 | @alt i a b x t u na nb hx hk hxa hxb ht hu it iu =>
  intro hsz F hs
  simp only [Lt.pat, Pat.size] at hsz
  have hlen := hs.nlen
  have hi' := (List.getElem?_eq_some_iff.1 hx).1
  obtain ⟨y, hy, hy2, hy3⟩ := level_kind ht
  obtain ⟨z, hz, hz2, hz3⟩ := level_kind hu
  have ha' := (List.getElem?_eq_some_iff.1 hy).1
  have hb' := (List.getElem?_eq_some_iff.1 hz).1
  obtain ⟨ad, had, hrow⟩ := rdn hs hx
  refine c48 ?_
  unfold b48
  refine ⟨ad, had, by omega, by omega, x.arr, rfl, hrow, fun b7 hb7 => ?_⟩
  refine atI ?_
  refine stW (set_eq _ _ _) rfl rfl (st_narr x) ?_
  rw [set_twice]
  have l7 : F.le (F.set b7 (.cells x.arr 50)) := le_set_fresh _ hb7
  have q7 := set_eq F b7 (.cells x.arr 50)
  generalize F.set b7 (.cells x.arr 50) = F1 at *
  have kd : ∀ {j : Nat} {y : Nd}, l[j]? = some y → F1.cell (ad.add (Int.toNat (j : Int) * 5)) = some (vi y.k) := fun hy => rdk (hs.le l7) had hy
  have c1 : ∀ {G : PH}, F1.le G → G.cell (Addr.mk b7 3 none) = some (vi a) := fun h => by rw [cell_eq (h _ _ q7), ← hxa]; rfl
  have c2 : ∀ {G : PH}, F1.le G → G.cell (Addr.mk b7 4 none) = some (vi b) := fun h => by rw [cell_eq (h _ _ q7), ← hxb]; rfl
  have e1 := pr_length t.pat
  have e2 := pr_length u.pat
  have p2 := par_length (u.pat.level < 2) u.pat.pr
  have s1 : (ByteArray.mk #[124]).size = 1 := rfl
  refine ⟨_, c1 (le_refl' _), ad, had, by omega, by omega, y.k, kd hy, _, c2 (le_refl' _), ad, had, by omega, by omega, z.k, kd hz, x.k, by rw [cell_eq q7]; rfl, ?_⟩
  refine ⟨fun h => absurd h (by omega), fun _ => ⟨fun h => absurd h (by omega), fun _ => ⟨fun _ => ?_, fun h => absurd hk h⟩⟩⟩
  refine ⟨_, c1 (le_refl' _), _, c2 (le_refl' _), ?_⟩
  refine (it (by omega) (hs.le l7)).mono ?_
  rintro _ F2 ⟨⟨v, rfl, hv⟩, l2⟩
  have hvs : v.size ≤ 1700000 := by rw [← bs_length, hv]; omega
  refine ⟨v, rfl, c2 l2, by rw [s1]; omega, ?_⟩
  refine (group_ref (p := u.pat.level < 2) (by rw [decide_eq_true_eq, hz2]) (by omega) (iu (by omega) (hs.le (le_trans' l7 l2)))).mono ?_
  rintro _ F3 ⟨⟨w, rfl, hw⟩, l3⟩
  have hws : w.size ≤ 1700000 := by rw [← bs_length, hw]; omega
  refine ⟨w, rfl, by rw [ByteArray.size_append, s1]; omega, ⟨_, rfl, ?_⟩, le_trans' l7 (le_trans' l2 l3)⟩
  rw [bs_append, bs_append, hv, hw, show bs (ByteArray.mk #[124]) = [124] from rfl, List.append_assoc, List.singleton_append]
  rfl
 | @rep i a x t na hx hk hxa ht it =>
  intro hsz F hs
  simp only [Lt.pat, Pat.size] at hsz
  have hlen := hs.nlen
  have hi' := (List.getElem?_eq_some_iff.1 hx).1
  obtain ⟨_, _, _, oa, ob, _, _⟩ := hG.ok i x hx
  have har := ar_one hk
  have xb := ob (by omega)
  obtain ⟨y, hy, hy2, hy3⟩ := level_kind ht
  have ha' := (List.getElem?_eq_some_iff.1 hy).1
  obtain ⟨ad, had, hrow⟩ := rdn hs hx
  have h0 : l[0]? = some l[0] := List.getElem?_eq_getElem (by omega)
  generalize l[0] = x0 at h0
  refine c48 ?_
  unfold b48
  refine ⟨ad, had, by omega, by omega, x.arr, rfl, hrow, fun b7 hb7 => ?_⟩
  refine atI ?_
  refine stW (set_eq _ _ _) rfl rfl (st_narr x) ?_
  rw [set_twice]
  have l7 : F.le (F.set b7 (.cells x.arr 50)) := le_set_fresh _ hb7
  have q7 := set_eq F b7 (.cells x.arr 50)
  generalize F.set b7 (.cells x.arr 50) = F1 at *
  have kd : ∀ {j : Nat} {y : Nd}, l[j]? = some y → F1.cell (ad.add (Int.toNat (j : Int) * 5)) = some (vi y.k) := fun hy => rdk (hs.le l7) had hy
  have c1 : ∀ {G : PH}, F1.le G → G.cell (Addr.mk b7 3 none) = some (vi a) := fun h => by rw [cell_eq (h _ _ q7), ← hxa]; rfl
  have e1 := pr_length t.pat
  have p1 := par_length (t.pat.level < 3) t.pat.pr
  have s1 : (ByteArray.mk #[42]).size = 1 := rfl
  refine ⟨_, c1 (le_refl' _), ad, had, by omega, by omega, y.k, kd hy, x.b, by rw [cell_eq q7]; rfl, ad, had, by omega, by omega, x0.k, by rw [xb]; exact kd (j := 0) h0, x.k, by rw [cell_eq q7]; rfl, ?_⟩
  refine ⟨fun h => absurd h (by omega), fun _ => ⟨fun h => absurd h (by omega), fun _ => ⟨fun h => absurd h (by omega), fun _ => ⟨fun _ => ?_, fun h => absurd hk h⟩⟩⟩⟩
  refine ⟨_, c1 (le_refl' _), ?_⟩
  have fin : ∀ (bb : Bool), (bb = true ↔ t.pat.level < 3) → Spec prog 76 #[s.v, vi a, .bool bb] F1 fun v_1 F_1 => ∃ w : ByteArray, v_1 = .string w ∧ w.size + (ByteArray.mk #[42]).size ≤ 9223372036854775807 ∧ StrV (.string (w ++ ByteArray.mk #[42])) (Lt.rep t).pat.pr ∧ F.le F_1 := fun bb hbb => by
   refine (group_ref (p := t.pat.level < 3) hbb (by omega) (it (by omega) (hs.le l7))).mono ?_
   rintro _ F2 ⟨⟨v, rfl, hv⟩, l2⟩
   have hvs : v.size ≤ 1700000 := by rw [← bs_length, hv]; omega
   refine ⟨v, rfl, by rw [s1]; omega, ⟨_, rfl, ?_⟩, le_trans' l7 l2⟩
   rw [bs_append, hv]
   rfl
  exact ⟨fun h3 => fin true (by simp [hy3, h3]), fun h3 => fin _ (by rw [decide_eq_true_eq, hy3]; omega)⟩
theorem refprint_spec {s : Sl} {l : List Nd} (hs : RdS F s 5 (nflat l)) : Spec prog 20 #[s.v] F fun r F' => (∃ v, r = .tuple #[v, vi (printR l).2] ∧ StrV v (printR l).1) ∧ F.le F' := by
 refine c20 ?_
 unfold b20
 refine (refcheck_spec hs).mono ?_
 rintro _ F2 ⟨rfl, l2⟩
 refine ⟨_, rfl, fun h => ?_, fun h => ?_⟩
 ·have e : printR l = ([], chkP l) := by unfold printR; rw [if_pos h]
  rw [e]
  exact ⟨⟨_, rfl, _, rfl, rfl⟩, l2⟩
 ·have h0 : chkP l = 0 := by omega
  have e : printR l = ((treeL l).pat.pr, 0) := by unfold printR; rw [if_neg h]
  rw [e]
  obtain ⟨hG, hl⟩ := chkP_zero h0
  obtain ⟨ns, ht⟩ := treeL_spec hG
  have hlen := hs.nlen
  have hne := List.length_pos_iff.2 hG.ne
  have ew : IntKind.i64.wrap ((s.len : Int) - 1) = ((l.length - 1 : Nat) : Int) := by rw [hlen, w64_eq (by omega) (by omega)]; omega
  rw [ew]
  refine (text_ref hG ht (by have := tree_small hG ht; omega) (hs.le l2)).mono ?_
  rintro _ F4 ⟨⟨v, rfl, hv⟩, l4⟩
  exact ⟨v, rfl, ⟨_, rfl, v, rfl, hv⟩, le_trans' l2 l4⟩
end
def slc (w : List Nat) (f e : Nat) : List Nat := (w.drop f).take (e - f)
theorem slc_length {w : List Nat} {f e : Nat} (h : f ≤ e) (he : e ≤ w.length) : (slc w f e).length = e - f := by
 unfold slc; rw [List.length_take, List.length_drop]; omega
theorem slc_join {w : List Nat} {f m e : Nat} (h1 : f ≤ m) (h2 : m ≤ e) : slc w f m ++ slc w m e = slc w f e := by
 unfold slc
 obtain ⟨a, rfl⟩ := Nat.exists_eq_add_of_le h1
 obtain ⟨b, rfl⟩ := Nat.exists_eq_add_of_le h2
 rw [show f + a - f = a by omega, show f + a + b - (f + a) = b by omega, show f + a + b - f = a + b by omega, ← List.drop_drop, List.take_add]
theorem slc_split {w : List Nat} {f e : Nat} (h : f ≤ e) (he : e ≤ w.length) {u v : List Nat} (hw : slc w f e = u ++ v) : ∃ m, f ≤ m ∧ m ≤ e ∧ slc w f m = u ∧ slc w m e = v := by
 have hl := slc_length h he
 rw [hw, List.length_append] at hl
 have h1 : f ≤ f + u.length := by omega
 have h2 : f + u.length ≤ e := by omega
 have hj := slc_join (w := w) h1 h2
 rw [hw] at hj
 have := List.append_inj hj (by rw [slc_length h1 (by omega)]; omega)
 exact ⟨f + u.length, h1, h2, this.1, this.2⟩
theorem slc_nil {w : List Nat} {f e : Nat} (h : f ≤ e) (he : e ≤ w.length) (hw : slc w f e = []) : f = e := by
 have := slc_length h he
 rw [hw] at this
 simp at this
 omega
theorem slc_self (w : List Nat) (f : Nat) : slc w f f = [] := by simp [slc]
theorem slc_one {w : List Nat} {f : Nat} (h : f < w.length) : slc w f (f + 1) = [w[f]] := by
 unfold slc
 rw [show f + 1 - f = 1 by omega, List.drop_eq_getElem_cons h]
 rfl
def Bh (P : List Nat → Prop) (w fr : List Nat) (e : Nat) : Prop := ∃ f ∈ fr, f ≤ e ∧ e ≤ w.length ∧ P (slc w f e)
theorem Bh_emp {w fr : List Nat} (hf : ∀ f ∈ fr, f ≤ w.length) (e : Nat) : Bh (Lg .emp) w fr e ↔ e ∈ fr := by
 constructor
 ·rintro ⟨f, hm, h1, h2, h3⟩
  have : f = e := slc_nil h1 h2 h3
  subst this
  exact hm
 ·intro h
  exact ⟨e, h, Nat.le_refl _, hf e h, slc_self _ _⟩
theorem Bh_seq {x y : Pat} {w fr o : List Nat} (ho : ∀ e, e ∈ o ↔ Bh (Lg x) w fr e) (e : Nat) : Bh (Lg y) w o e ↔ Bh (Lg (.seq x y)) w fr e := by
 constructor
 ·rintro ⟨m, hm, h1, h2, h3⟩
  obtain ⟨f, hf, g1, g2, g3⟩ := (ho m).1 hm
  exact ⟨f, hf, by omega, h2, _, _, (slc_join g1 h1).symm, g3, h3⟩
 ·rintro ⟨f, hf, h1, h2, u, v, e1, hu, hv⟩
  obtain ⟨m, m1, m2, rfl, rfl⟩ := slc_split h1 h2 e1
  exact ⟨m, (ho m).2 ⟨f, hf, m1, by omega, hu⟩, m2, h2, hv⟩
theorem Bh_alt {x y : Pat} {w fr : List Nat} (e : Nat) : Bh (Lg (.alt x y)) w fr e ↔ Bh (Lg x) w fr e ∨ Bh (Lg y) w fr e := by
 constructor
 ·rintro ⟨f, hf, h1, h2, h3 | h3⟩
  ·exact .inl ⟨f, hf, h1, h2, h3⟩
  ·exact .inr ⟨f, hf, h1, h2, h3⟩
 ·rintro (⟨f, hf, h1, h2, h3⟩ | ⟨f, hf, h1, h2, h3⟩)
  ·exact ⟨f, hf, h1, h2, .inl h3⟩
  ·exact ⟨f, hf, h1, h2, .inr h3⟩
theorem Star.append {P : List Nat → Prop} {u v : List Nat} (hu : Star P u) (hv : P v) : Star P (u ++ v) := by
 induction hu with
 | nil =>
  have := Star.cons hv .nil
  rw [List.append_nil] at this
  exact this
 | cons h _ ih => rw [List.append_assoc]; exact .cons h ih
theorem Bh_step {x : Pat} {w fr o : List Nat} (ho : ∀ e ∈ o, Bh (Lg (.rep x)) w fr e) {e : Nat} (h : Bh (Lg x) w o e) : Bh (Lg (.rep x)) w fr e := by
 obtain ⟨m, hm, h1, h2, h3⟩ := h
 obtain ⟨f, hf, g1, g2, g3⟩ := ho m hm
 refine ⟨f, hf, by omega, h2, ?_⟩
 rw [← slc_join g1 h1]
 exact Star.append g3 h3
theorem Bh_rep {x : Pat} {w fr o : List Nat} (hi : ∀ f ∈ fr, f ∈ o) (ho : ∀ e ∈ o, Bh (Lg (.rep x)) w fr e) (hc : ∀ e, Bh (Lg x) w o e → e ∈ o) (e : Nat) : e ∈ o ↔ Bh (Lg (.rep x)) w fr e := by
 refine ⟨ho e, ?_⟩
 rintro ⟨f, hf, h1, h2, h3⟩
 have key : ∀ u, Star (Lg x) u → ∀ f, f ∈ o → f ≤ e → slc w f e = u → e ∈ o := by
  intro u hu
  induction hu with
  | nil =>
   intro f hf h1 hs
   have := slc_nil h1 h2 hs
   subst this
   exact hf
  | cons hu _ ih =>
   intro f hf h1 hs
   obtain ⟨m, m1, m2, rfl, e2⟩ := slc_split h1 h2 hs
   exact ih m (hc m ⟨f, hf, m1, by omega, hu⟩) m2 e2
 exact key _ h3 f (hi f hf) h1 rfl
def tog : List Nat → List Nat → List Nat
 | o, [] => o
 | o, m :: ms => tog (if m ∈ o then o else o ++ [m]) ms
theorem tog_snoc (m : Nat) : ∀ (ms o : List Nat), tog o (ms ++ [m]) = if m ∈ tog o ms then tog o ms else tog o ms ++ [m]
 | [], o => rfl
 | k :: ms, o => tog_snoc m ms _
theorem tog_mem (e : Nat) : ∀ (ms o : List Nat), e ∈ tog o ms ↔ e ∈ o ∨ e ∈ ms
 | [], o => by simp [tog]
 | m :: ms, o => by
  rw [tog, tog_mem e ms]
  split
  ·rename_i h
   simp only [List.mem_cons]
   constructor
   ·rintro (h1 | h1)
    ·exact .inl h1
    ·exact .inr (.inr h1)
   ·rintro (h1 | rfl | h1)
    ·exact .inl h1
    ·exact .inl h
    ·exact .inr h1
  ·simp only [List.mem_append, List.mem_cons, List.not_mem_nil, or_false, or_assoc]
theorem tog_nodup : ∀ (ms o : List Nat), o.Nodup → (tog o ms).Nodup
 | [], o, h => h
 | m :: ms, o, h => by
  rw [tog]
  refine tog_nodup ms _ ?_
  split
  ·exact h
  ·rename_i hm
   exact List.nodup_append.2 ⟨h, by simp, fun a ha b hb e => hm (by simp at hb; subst hb; subst e; exact ha)⟩
theorem tog_pre : ∀ (ms o : List Nat), ∃ k, tog o ms = o ++ k
 | [], o => ⟨[], by simp [tog]⟩
 | m :: ms, o => by
  rw [tog]
  obtain ⟨k, hk⟩ := tog_pre ms (if m ∈ o then o else o ++ [m])
  rw [hk]
  split
  ·exact ⟨k, rfl⟩
  ·exact ⟨[m] ++ k, by simp⟩
theorem tog_len (ms o : List Nat) : (tog o ms).length ≤ o.length + ms.length := by
 induction ms generalizing o with
 | nil => simp [tog]
 | cons m ms ih =>
  rw [tog]
  refine Nat.le_trans (ih _) ?_
  split <;> simp <;> omega
theorem tog_full {ms o : List Nat} (h : (tog o ms).length ≤ o.length) : ∀ m ∈ ms, m ∈ o := by
 obtain ⟨k, hk⟩ := tog_pre ms o
 rw [hk, List.length_append] at h
 have : k = [] := List.length_eq_zero_iff.1 (by omega)
 subst this
 intro m hm
 have := (tog_mem m ms o).2 (.inr hm)
 rw [hk] at this
 simpa using this
theorem few_of_nodup {o : List Nat} {n : Nat} (h : o.Nodup) (hb : ∀ e ∈ o, e ≤ n) : o.length ≤ n + 1 := nodup_bound' (n + 1) o h fun e he => by have := hb e he; omega
where nodup_bound' : ∀ (n : Nat) (ns : List Nat), ns.Nodup → (∀ j ∈ ns, j < n) → ns.length ≤ n
 | 0, [], _, _ => Nat.le_refl _
 | 0, j :: ns, _, h => absurd (h j (by simp)) (by omega)
 | n + 1, ns, hn, h => by
  by_cases hm : n ∈ ns
  ·have := nodup_bound' n (ns.erase n) (hn.erase n) fun j hj => by
    have h1 := h j (List.mem_of_mem_erase hj)
    have h2 : j ≠ n := fun e => by rw [e] at hj; exact (hn.not_mem_erase hj)
    omega
   rw [List.length_erase_of_mem hm] at this
   omega
  ·have := nodup_bound' n ns hn fun j hj => by
    have h1 := h j hj
    have h2 : j ≠ n := fun e => hm (e ▸ hj)
    omega
   omega
def il (ns : List Nat) : List Value := ns.map fun (n : Nat) => vi n
theorem il_app (a b : List Nat) : il (a ++ b) = il a ++ il b := by simp [il]
theorem il_st (a : List Nat) : ∀ v ∈ il a, storable v := fun v hv => by
 obtain ⟨n, _, rfl⟩ := List.mem_map.1 hv
 exact ⟨fun _ h => (by cases h), fun _ h => (by cases h)⟩
section
variable {F : PH}
theorem il_len {s : Sl} {ns : List Nat} (h : RdS F s 1 (il ns)) : s.len = ns.length := by have := h.len; simp [il] at this; omega
theorem il_cell {s : Sl} {ns : List Nat} (h : RdS F s 1 (il ns)) {i : Nat} (hi : i < ns.length) : ∃ a, s.base = some a ∧ F.cell (a.add (Int.toNat (i : Int) * 1)) = some (vi (ns[i] : Nat)) := by
 have hl := il_len h
 obtain ⟨b, o, hb, _⟩ := h.cells (by omega)
 refine ⟨_, hb, ?_⟩
 rw [Int.toNat_natCast, Nat.mul_one]
 have := h.cell hb (i := i) (by simp [il]; exact hi)
 rw [this]
 simp [il]
theorem has_ref {s : Sl} {ns : List Nat} (h : RdS F s 1 (il ns)) (hn : ns.length ≤ 1000000) (n : Nat) : Spec prog 54 #[s.v, vi n] F fun r F' => r = .bool (decide (n ∈ ns)) ∧ F' = F := by
 have hl := il_len h
 refine c54 ?_
 unfold b54
 refine ⟨fun m i F' => ∃ j : Nat, i = j ∧ j ≤ ns.length ∧ m = ns.length - j ∧ F' = F ∧ n ∉ ns.take j, ns.length, ⟨0, rfl, by omega, rfl, rfl, by simp⟩, ?_⟩
 rintro _ _ F' ⟨j, rfl, hj, rfl, e, hno⟩
 obtain rfl := e.symm
 unfold b54L1
 refine ⟨fun hlt => ?_, fun hge => ?_⟩
 ·have hjl : j < ns.length := by omega
  obtain ⟨a, ha, hc⟩ := il_cell h hjl
  refine ⟨a, ha, by omega, by omega, _, hc, fun he => ⟨?_, rfl⟩, fun he => ⟨ns.length - (j + 1), by omega, j + 1, w64s (by omega), by omega, rfl, rfl, ?_⟩⟩
  ·have : n = ns[j] := by omega
   rw [decide_eq_true (by rw [this]; exact List.getElem_mem hjl)]
  ·rw [List.take_add_one, List.getElem?_eq_getElem hjl]
   simp only [Option.toList_some, List.mem_append, List.mem_singleton]
   rintro (h1 | h1)
   ·exact hno h1
   ·exact he (by omega)
 ·unfold b54j1
  obtain rfl : j = ns.length := by omega
  rw [List.take_length] at hno
  exact ⟨by rw [decide_eq_false hno], rfl⟩
def IlV (F : PH) (v : Value) (o : List Nat) : Prop := ∃ s : Sl, v = s.v ∧ RdS F s 1 (il o)
theorem together_ref {s s2 : Sl} {ns ms : List Nat} (h : RdS F s 1 (il ns)) (h2 : RdS F s2 1 (il ms)) (hn : ns.length ≤ 200000) (hm : ms.length ≤ 200000) : Spec prog 73 #[s.v, s2.v] F fun r F' => IlV F' r (tog ns ms) ∧ F.le F' := by
 have hl := il_len h
 have hl2 := il_len h2
 refine c73 ?_
 unfold b73
 intro b4 hb4
 refine atI ?_
 have l4 := le_set_fresh (.cells #[] 3) hb4
 have q4 := set_eq F b4 (.cells #[] 3)
 generalize F.set b4 (.cells #[] 3) = F4 at *
 have ho : OwnS F4 3 1 ⟨some ⟨b4, 0, none⟩, 0, 0⟩ (il []) := .inr ⟨b4, #[], rfl, q4, rfl, Nat.le_refl _, rfl, rfl⟩
 refine own_app (F0 := F) u53r sz3r zr3r rfl (by decide) l4 ho (fun a ha => by cases ha; exact hb4) (h.le l4) (il_st ns) (by simp only; omega) (by simp only; omega) ?_
 intro s' F5 le5 ho5 hl5 hnew5 _ _
 rw [show il [] ++ il ns = il ns from rfl] at ho5
 refine ⟨s', rfl, fun m o i F' => ∃ j : Nat, i = j ∧ j ≤ ms.length ∧ m = ms.length - j ∧ Ov 3 F F' o (il (tog ns (ms.take j))), ms.length, ⟨0, rfl, by omega, rfl, ⟨le5, by simpa [tog] using ho5, hnew5⟩⟩, ?_⟩
 clear hnew5 ho5 le5 l4 q4 hb4 ho
 rintro _ o _ F6 ⟨j, rfl, hj, rfl, hO⟩
 unfold b73L1
 refine ⟨fun hlt => ?_, fun hge => ?_⟩
 ·have hjl : j < ms.length := by omega
  have hlen : (tog ns (ms.take j)).length ≤ 400000 := by
   have := tog_len (ms.take j) ns
   rw [List.length_take] at this
   omega
  have hx : ms[j]? = some ms[j] := List.getElem?_eq_getElem hjl
  obtain ⟨a, ha, hc⟩ := il_cell (h2.le hO.le) hjl
  refine ⟨a, ha, by omega, by omega, _, hc, ?_⟩
  refine (has_ref hO.own.rd (by omega) _).mono ?_
  rintro _ F7 ⟨rfl, e⟩
  obtain rfl := e.symm
  have htk : tog ns (ms.take (j + 1)) = if ms[j] ∈ tog ns (ms.take j) then tog ns (ms.take j) else tog ns (ms.take j) ++ [ms[j]] := by
   rw [List.take_add_one, hx]
   exact tog_snoc _ _ _
  refine ⟨_, rfl, fun hno => ⟨a, ha, by omega, by omega, _, hc, ?_⟩, fun hin => ?_⟩
  ·have hno' : ms[j] ∉ tog ns (ms.take j) := by simpa using hno
   rw [if_neg hno'] at htk
   refine hO.push (t := 53) u53r sz3r zr3r rfl (by decide) ⟨fun _ h => (by cases h), fun _ h => (by cases h)⟩ (by rw [hO.len]; simp [il]; omega) fun s' F' h' => ?_
   unfold b73j2
   refine ⟨ms.length - (j + 1), by omega, j + 1, w64s (by omega), by omega, rfl, ?_⟩
   rw [htk, il_app]
   exact h'
  ·have hin' : ms[j] ∈ tog ns (ms.take j) := by simpa using hin
   rw [if_pos hin'] at htk
   unfold b73j2
   refine ⟨ms.length - (j + 1), by omega, j + 1, w64s (by omega), by omega, rfl, ?_⟩
   rw [htk]
   exact hO
 ·unfold b73j1
  obtain rfl : j = ms.length := by omega
  rw [List.take_length] at hO
  exact ⟨⟨_, rfl, hO.own.rd⟩, hO.le⟩
end
def stepL (w : List Nat) (lo hi : Nat) (fr : List Nat) : List Nat := (fr.filter fun f => decide (f < w.length ∧ lo ≤ w.getD f 0 ∧ w.getD f 0 ≤ hi)).map (· + 1)
theorem stepL_snoc (w : List Nat) (lo hi : Nat) (fr : List Nat) (f : Nat) : stepL w lo hi (fr ++ [f]) = if f < w.length ∧ lo ≤ w.getD f 0 ∧ w.getD f 0 ≤ hi then stepL w lo hi fr ++ [f + 1] else stepL w lo hi fr := by
 unfold stepL
 rw [List.filter_append, List.map_append, List.filter_cons]
 split
 ·rename_i h
  rw [if_pos (by simpa using h)]
  rfl
 ·rename_i h
  rw [if_neg (by simpa using h)]
  simp
theorem stepL_nodup {w : List Nat} {lo hi : Nat} {fr : List Nat} (h : fr.Nodup) : (stepL w lo hi fr).Nodup := by
 unfold stepL
 refine List.Pairwise.map (R := (· ≠ ·)) _ (fun a b hab => by omega) ?_
 exact List.Pairwise.sublist List.filter_sublist h
theorem stepL_mem {w : List Nat} {lo hi : Nat} {fr : List Nat} (e : Nat) : e ∈ stepL w lo hi fr ↔ Bh (Lg (.rng lo hi)) w fr e := by
 unfold stepL
 simp only [List.mem_map, List.mem_filter, decide_eq_true_eq]
 constructor
 ·rintro ⟨f, ⟨hf, h1, h2, h3⟩, rfl⟩
  refine ⟨f, hf, by omega, by omega, w.getD f 0, ?_, h2, h3⟩
  rw [slc_one h1, List.getD_eq_getElem?_getD, List.getElem?_eq_getElem h1]
  rfl
 ·rintro ⟨f, hf, h1, h2, b, hb, h3, h4⟩
  have hl := slc_length h1 h2
  rw [hb] at hl
  simp at hl
  obtain rfl : e = f + 1 := by omega
  rw [slc_one (by omega)] at hb
  simp at hb
  refine ⟨f, ⟨hf, by omega, ?_⟩, rfl⟩
  rw [List.getD_eq_getElem?_getD, List.getElem?_eq_getElem (by omega)]
  simp only [Option.getD_some]
  omega
section
variable {F : PH}
def BhR (F : PH) (v : Value) (P : List Nat → Prop) (w fr : List Nat) : Prop := ∃ o : List Nat, IlV F v o ∧ o.Nodup ∧ ∀ e, e ∈ o ↔ Bh P w fr e
theorem IlV.le {F G : PH} {v : Value} {o : List Nat} (h : IlV F v o) (hl : F.le G) : IlV G v o := by
 obtain ⟨s, e, h⟩ := h
 exact ⟨s, e, h.le hl⟩
theorem Bh_le {P : List Nat → Prop} {w fr o : List Nat} (h : ∀ e, e ∈ o ↔ Bh P w fr e) : ∀ e ∈ o, e ≤ w.length := fun e he => by
 obtain ⟨f, _, _, h2, _⟩ := (h e).1 he
 exact h2
theorem behind_rng {s2 : Sl} {fr : List Nat} {st : ByteArray} {lo hi b9 b17 : Nat} {F1 : PH} {x : Nd} {R : Value → PH → Prop} (h2 : RdS F1 s2 1 (il fr)) (hfl : fr.length ≤ 100001) (hfb : ∀ f ∈ fr, f ≤ st.size) (hst : st.size ≤ 100000) (q9 : F1 b9 = some (.cells x.arr 50)) (hlo : x.lo = lo) (hhi : x.hi = hi) (hb17 : F1 b17 = none)
  (hR : ∀ v F', F1.le F' → IlV F' v (stepL (bs st) lo hi fr) → R v F') :
  ∃ (I2 : Nat → Sl → Int → PH → Prop) (m2 : Nat), I2 m2 (Sl.mk (some (Addr.mk b17 0 none)) 0 0) (0 : Int) (F1.set b17 (.cells #[] 3)) ∧ ∀ m2 out_10_3 k_11 F, I2 m2 out_10_3 k_11 F →
   b45L2 (fun y2_0 y2_1 F => ∃ m', m' < m2 ∧ I2 m' y2_0 y2_1 F) st s2 b9 R out_10_3 k_11 F := by
 have hl2 := il_len h2
 have hwl := bs_length st
 refine ⟨fun m o k F' => ∃ j : Nat, k = j ∧ j ≤ fr.length ∧ m = fr.length - j ∧ Ov 3 F1 F' o (il (stepL (bs st) lo hi (fr.take j))), fr.length, ⟨0, rfl, by omega, rfl, ⟨le_set_fresh _ hb17, .inr ⟨b17, #[], rfl, set_eq _ _ _, rfl, Nat.le_refl _, rfl, rfl⟩, fun a ha => by cases ha; exact hb17⟩⟩, ?_⟩
 rintro _ o _ F6 ⟨j, rfl, hj, rfl, hO⟩
 unfold b45L2
 refine ⟨fun hlt => ?_, fun hge => ?_⟩
 ·have hjl : j < fr.length := by omega
  have hlen : (stepL (bs st) lo hi (fr.take j)).length ≤ 100001 := by
   unfold stepL
   rw [List.length_map]
   refine Nat.le_trans (List.length_filter_le _ _) ?_
   rw [List.length_take]
   omega
  have hx : fr[j]? = some fr[j] := List.getElem?_eq_getElem hjl
  obtain ⟨a, ha, hc⟩ := il_cell (h2.le hO.le) hjl
  have hfj := hfb _ (List.getElem_mem hjl)
  have htk : stepL (bs st) lo hi (fr.take (j + 1)) = if fr[j] < (bs st).length ∧ lo ≤ (bs st).getD fr[j] 0 ∧ (bs st).getD fr[j] 0 ≤ hi then stepL (bs st) lo hi (fr.take j) ++ [fr[j] + 1] else stepL (bs st) lo hi (fr.take j) := by
   rw [List.take_add_one, hx]
   exact stepL_snoc _ _ _ _ _
  generalize fr[j] = f at *
  have j5 : ∀ bb : Bool, (bb = true ↔ f < (bs st).length ∧ lo ≤ (bs st).getD f 0 ∧ (bs st).getD f 0 ≤ hi) → b45j5 (fun y2_0 y2_1 F => ∃ m', m' < fr.length - j ∧ ∃ j : Nat, y2_1 = j ∧ j ≤ fr.length ∧ m' = fr.length - j ∧ Ov 3 F1 F y2_0 (il (stepL (bs st) lo hi (fr.take j)))) st s2 b9 o j bb R F6 := fun bb hbb => by
   unfold b45j5
   refine ⟨fun ht => ⟨a, ha, by omega, by omega, _, hc, ?_⟩, fun hf => ?_⟩
   ·rw [if_pos (hbb.1 ht)] at htk
    rw [w64s (by omega)]
    refine hO.push (t := 53) u53r sz3r zr3r rfl (by decide) st_int (by rw [hO.len]; simp [il]; omega) fun s' F' h' => ?_
    unfold b45j4
    refine ⟨fr.length - (j + 1), by omega, j + 1, w64s (by omega), by omega, rfl, ?_⟩
    rw [htk, il_app]
    exact h'
   ·rw [if_neg (fun h => by rw [hbb.2 h] at hf; cases hf)] at htk
    unfold b45j4
    refine ⟨fr.length - (j + 1), by omega, j + 1, w64s (by omega), by omega, rfl, ?_⟩
    rw [htk]
    exact hO
  have c1 : F6.cell (Addr.mk b9 1 none) = some (vi lo) := by rw [cell_eq (hO.le _ _ q9), ← hlo]; rfl
  have c2 : F6.cell (Addr.mk b9 2 none) = some (vi hi) := by rw [cell_eq (hO.le _ _ q9), ← hhi]; rfl
  refine ⟨a, ha, by omega, by omega, _, hc, fun hlt2 => ?_, fun hge2 => j5 false ⟨fun h => (by cases h), fun h => absurd h.1 (by omega)⟩⟩
  have hfs : f < st.size := by omega
  have hget : ∀ hx : Int.toNat (f : Int) < st.size, IntKind.i64.wrap ((st[Int.toNat (f : Int)]'hx).toNat : Int) = (((bs st).getD f 0 : Nat) : Int) := fun hx => by
   have e : (st[Int.toNat (f : Int)]'hx).toNat = (bs st).getD f 0 := by
    rw [← bs_cb]
    unfold cb
    simp only [Int.toNat_natCast] at hx
    rw [dif_pos hx]
    rfl
   have h256 : (bs st).getD f 0 < 256 := by
    rw [List.getD_eq_getElem?_getD, List.getElem?_eq_getElem (by omega : f < (bs st).length)]
    exact bs_lt st _ (List.getElem_mem _)
   rw [e, w64_eq (by omega) (by omega)]
  refine ⟨a, ha, by omega, by omega, _, hc, by omega, by omega, by rw [Int.toNat_natCast]; exact hfs, _, rfl, _, c1, fun hle => ⟨a, ha, by omega, by omega, _, hc, by omega, by omega, by rw [Int.toNat_natCast]; exact hfs, _, rfl, _, c2, j5 _ ?_⟩, fun hgt => j5 false ⟨fun h => (by cases h), fun h => ?_⟩⟩
  ·rw [hget] at hle
   rw [hget, decide_eq_true_eq]
   omega
  ·rw [hget] at hgt
   omega
 ·unfold b45j3
  obtain rfl : j = fr.length := by omega
  rw [List.take_length] at hO
  exact hR _ _ hO.le ⟨_, rfl, hO.own.rd⟩
theorem behind_ref {l : List Nd} {p : Sl} {st : ByteArray} (hst : st.size ≤ 100000) {i : Nat} {t : Lt} {ns : List Nat} (h : TreeAt l i t ns) : ∀ {F : PH} {s2 : Sl} {fr : List Nat}, RdS F p 5 (nflat l) → RdS F s2 1 (il fr) → fr.Nodup → (∀ f ∈ fr, f ≤ st.size) →
  Spec prog 45 #[p.v, vi i, .string st, s2.v] F fun r F' => BhR F' r (Lg t.pat) (bs st) fr ∧ F.le F' := by
 have hwl := bs_length st
 have few : ∀ {o : List Nat}, o.Nodup → (∀ e ∈ o, e ≤ (bs st).length) → o.length ≤ 100001 := fun h1 h2 => by have := few_of_nodup h1 h2; omega
 induction h with
 | @emp i x hx hk =>
  intro F s2 fr hs h2 hnd hfb
  have hlen := hs.nlen
  have hi := (List.getElem?_eq_some_iff.1 hx).1
  obtain ⟨a, ha, hrow⟩ := rdn hs hx
  refine c45 ?_
  unfold b45
  refine ⟨a, ha, by omega, by omega, x.arr, rfl, hrow, fun b9 hb9 => ?_⟩
  refine atI ?_
  refine stW (set_eq _ _ _) rfl rfl (st_narr x) ?_
  rw [set_twice]
  intro b17 hb17
  refine atI ?_
  have l9 : F.le (F.set b9 (.cells x.arr 50)) := le_set_fresh _ hb9
  have q9 := set_eq F b9 (.cells x.arr 50)
  generalize F.set b9 (.cells x.arr 50) = F1 at *
  refine ⟨x.k, by rw [cell_eq (le_set_fresh _ hb17 _ _ q9)]; rfl, fun _ => ⟨⟨fr, ⟨_, rfl, h2.le (le_trans' l9 (le_set_fresh _ hb17))⟩, hnd, fun e => ?_⟩, le_trans' l9 (le_set_fresh _ hb17)⟩, fun h => absurd hk h⟩
  exact (Bh_emp (fun f hf => by rw [hwl]; exact hfb f hf) e).symm
 | @rng i lo hi x hx hk hlo hhi hle h255 =>
  intro F s2 fr hs h2 hnd hfb
  have hlen := hs.nlen
  have hi' := (List.getElem?_eq_some_iff.1 hx).1
  obtain ⟨a, ha, hrow⟩ := rdn hs hx
  refine c45 ?_
  unfold b45
  refine ⟨a, ha, by omega, by omega, x.arr, rfl, hrow, fun b9 hb9 => ?_⟩
  refine atI ?_
  refine stW (set_eq _ _ _) rfl rfl (st_narr x) ?_
  rw [set_twice]
  intro b17 hb17
  refine atI ?_
  have l9 : F.le (F.set b9 (.cells x.arr 50)) := le_set_fresh _ hb9
  have q9 := set_eq F b9 (.cells x.arr 50)
  generalize F.set b9 (.cells x.arr 50) = F1 at *
  refine ⟨x.k, by rw [cell_eq (le_set_fresh _ hb17 _ _ q9)]; rfl, fun h => absurd h (by omega), fun _ => ⟨fun _ => ?_, fun h => absurd hk h⟩⟩
  refine behind_rng (h2.le l9) (few hnd fun f hf => by rw [hwl]; exact hfb f hf) hfb hst q9 hlo hhi hb17 fun v F' hl' hv => ?_
  exact ⟨⟨_, hv, stepL_nodup hnd, fun e => stepL_mem e⟩, le_trans' l9 hl'⟩
 | @seq i a b x t u na nb hx hk hxa hxb ht hu it iu =>
  intro F s2 fr hs h2 hnd hfb
  have hlen := hs.nlen
  have hi' := (List.getElem?_eq_some_iff.1 hx).1
  obtain ⟨ad, had, hrow⟩ := rdn hs hx
  refine c45 ?_
  unfold b45
  refine ⟨ad, had, by omega, by omega, x.arr, rfl, hrow, fun b9 hb9 => ?_⟩
  refine atI ?_
  refine stW (set_eq _ _ _) rfl rfl (st_narr x) ?_
  rw [set_twice]
  intro b17 hb17
  refine atI ?_
  have q9 := le_set_fresh (.cells #[] 3) hb17 _ _ (set_eq F b9 (.cells x.arr 50))
  have l9 := le_trans' (le_set_fresh (.cells x.arr 50) hb9) (le_set_fresh (.cells #[] 3) hb17)
  generalize (F.set b9 (.cells x.arr 50)).set b17 (.cells #[] 3) = F1 at *
  have c1 : ∀ {G : PH}, F1.le G → G.cell (Addr.mk b9 3 none) = some (vi a) := fun h => by rw [cell_eq (h _ _ q9), ← hxa]; rfl
  have c2 : ∀ {G : PH}, F1.le G → G.cell (Addr.mk b9 4 none) = some (vi b) := fun h => by rw [cell_eq (h _ _ q9), ← hxb]; rfl
  refine ⟨x.k, by rw [cell_eq q9]; rfl, fun h => absurd h (by omega), fun _ => ⟨fun h => absurd h (by omega), fun _ => ⟨fun _ => ?_, fun h => absurd hk h⟩⟩⟩
  refine ⟨_, c2 (le_refl' _), _, c1 (le_refl' _), ?_⟩
  refine (it (hs.le l9) (h2.le l9) hnd hfb).mono ?_
  rintro _ F2 ⟨⟨o, ⟨s3, rfl, h3⟩, ho, hoe⟩, l2⟩
  refine ⟨s3, rfl, c2 l2, ?_⟩
  refine (iu (hs.le (le_trans' l9 l2)) h3 ho fun f hf => by rw [← hwl]; exact Bh_le hoe f hf).mono ?_
  rintro _ F3 ⟨⟨o2, ⟨s4, rfl, h4⟩, ho2, hoe2⟩, l3⟩
  refine ⟨s4, rfl, ⟨o2, ⟨s4, rfl, h4⟩, ho2, fun e => ?_⟩, le_trans' l9 (le_trans' l2 l3)⟩
  rw [hoe2 e]
  exact Bh_seq hoe e
 | @alt i a b x t u na nb hx hk hxa hxb ht hu it iu =>
  intro F s2 fr hs h2 hnd hfb
  have hlen := hs.nlen
  have hi' := (List.getElem?_eq_some_iff.1 hx).1
  obtain ⟨ad, had, hrow⟩ := rdn hs hx
  refine c45 ?_
  unfold b45
  refine ⟨ad, had, by omega, by omega, x.arr, rfl, hrow, fun b9 hb9 => ?_⟩
  refine atI ?_
  refine stW (set_eq _ _ _) rfl rfl (st_narr x) ?_
  rw [set_twice]
  intro b17 hb17
  refine atI ?_
  have q9 := le_set_fresh (.cells #[] 3) hb17 _ _ (set_eq F b9 (.cells x.arr 50))
  have l9 := le_trans' (le_set_fresh (.cells x.arr 50) hb9) (le_set_fresh (.cells #[] 3) hb17)
  generalize (F.set b9 (.cells x.arr 50)).set b17 (.cells #[] 3) = F1 at *
  have c1 : ∀ {G : PH}, F1.le G → G.cell (Addr.mk b9 3 none) = some (vi a) := fun h => by rw [cell_eq (h _ _ q9), ← hxa]; rfl
  have c2 : ∀ {G : PH}, F1.le G → G.cell (Addr.mk b9 4 none) = some (vi b) := fun h => by rw [cell_eq (h _ _ q9), ← hxb]; rfl
  refine ⟨x.k, by rw [cell_eq q9]; rfl, fun h => absurd h (by omega), fun _ => ⟨fun h => absurd h (by omega), fun _ => ⟨fun h => absurd h (by omega), fun _ => ⟨fun _ => ?_, fun h => absurd hk h⟩⟩⟩⟩
  refine ⟨_, c1 (le_refl' _), _, c2 (le_refl' _), ?_⟩
  refine (it (hs.le l9) (h2.le l9) hnd hfb).mono ?_
  rintro _ F2 ⟨⟨o, ⟨s3, rfl, h3⟩, ho, hoe⟩, l2⟩
  refine ⟨s3, rfl, c2 l2, ?_⟩
  refine (iu (hs.le (le_trans' l9 l2)) (h2.le (le_trans' l9 l2)) hnd hfb).mono ?_
  rintro _ F3 ⟨⟨o2, ⟨s4, rfl, h4⟩, ho2, hoe2⟩, l3⟩
  refine ⟨s4, rfl, ?_⟩
  have n1 := few ho (Bh_le hoe)
  have n2 := few ho2 (Bh_le hoe2)
  refine (together_ref (h3.le l3) h4 (by omega) (by omega)).mono ?_
  rintro _ F4 ⟨⟨s5, rfl, h5⟩, l4⟩
  refine ⟨s5, rfl, ⟨_, ⟨s5, rfl, h5⟩, tog_nodup _ _ ho, fun e => ?_⟩, le_trans' l9 (le_trans' l2 (le_trans' l3 l4))⟩
  rw [tog_mem, hoe, hoe2]
  exact (Bh_alt e).symm
 | @rep i a x t na hx hk hxa ht it =>
  intro F s2 fr hs h2 hnd hfb
  have hlen := hs.nlen
  have hi' := (List.getElem?_eq_some_iff.1 hx).1
  obtain ⟨ad, had, hrow⟩ := rdn hs hx
  refine c45 ?_
  unfold b45
  refine ⟨ad, had, by omega, by omega, x.arr, rfl, hrow, fun b9 hb9 => ?_⟩
  refine atI ?_
  refine stW (set_eq _ _ _) rfl rfl (st_narr x) ?_
  rw [set_twice]
  intro b17 hb17
  refine atI ?_
  have q9 := le_set_fresh (.cells #[] 3) hb17 _ _ (set_eq F b9 (.cells x.arr 50))
  have l9 := le_trans' (le_set_fresh (.cells x.arr 50) hb9) (le_set_fresh (.cells #[] 3) hb17)
  generalize (F.set b9 (.cells x.arr 50)).set b17 (.cells #[] 3) = F1 at *
  have c1 : ∀ {G : PH}, F1.le G → G.cell (Addr.mk b9 3 none) = some (vi a) := fun h => by rw [cell_eq (h _ _ q9), ← hxa]; rfl
  refine ⟨x.k, by rw [cell_eq q9]; rfl, fun h => absurd h (by omega), fun _ => ⟨fun h => absurd h (by omega), fun _ => ⟨fun h => absurd h (by omega), fun _ => ⟨fun h => absurd h (by omega), fun _ => ?_⟩⟩⟩⟩
  unfold b45j1
  refine ⟨fun m os n F' => ∃ (o : List Nat) (k : Nat), n = (k : Int) - 1 ∧ k ≤ o.length + 1 ∧ m = st.size + 3 - k ∧ F1.le F' ∧ RdS F' os 1 (il o) ∧ o.Nodup ∧ (∀ f ∈ fr, f ∈ o) ∧ (∀ e ∈ o, Bh (Lg (.rep t.pat)) (bs st) fr e) ∧ (k = o.length + 1 → ∀ e, Bh (Lg t.pat) (bs st) o e → e ∈ o), st.size + 3,
   ⟨fr, 0, by omega, by omega, by omega, le_refl' _, h2.le l9, hnd, fun _ h => h, fun e he => ⟨e, he, Nat.le_refl _, by rw [hwl]; exact hfb e he, by rw [slc_self]; exact .nil⟩, fun h => by omega⟩, ?_⟩
  rintro _ os _ F2 ⟨o, k, rfl, hk', rfl, l2, h3, ho, hfo, hoe, hcl⟩
  unfold b45L1
  have hos := il_len h3
  have hob : ∀ e ∈ o, e ≤ (bs st).length := fun e he => by obtain ⟨f, _, _, g, _⟩ := hoe e he; exact g
  have hfew := few_of_nodup ho hob
  refine ⟨fun hlt => ?_, fun hge => ?_⟩
  ·refine ⟨_, c1 l2, ?_⟩
   refine (it (hs.le (le_trans' l9 l2)) h3 ho fun f hf => by rw [← hwl]; exact hob f hf).mono ?_
   rintro _ F3 ⟨⟨o2, ⟨s4, rfl, h4⟩, ho2, hoe2⟩, l3⟩
   refine ⟨s4, rfl, ?_⟩
   have n2 := few ho2 (Bh_le hoe2)
   refine (together_ref (h3.le l3) h4 (by omega) (by omega)).mono ?_
   rintro _ F4 ⟨⟨s5, rfl, h5⟩, l4⟩
   obtain ⟨kk, hkk⟩ := tog_pre o2 o
   refine ⟨s5, rfl, st.size + 3 - (o.length + 1), by omega, tog o o2, o.length + 1, by omega, by rw [hkk, List.length_append]; omega, rfl, le_trans' l2 (le_trans' l3 l4), h5, tog_nodup _ _ ho, fun f hf => (tog_mem f o2 o).2 (.inl (hfo f hf)), fun e he => ?_, fun hfull e he => ?_⟩
   ·rcases (tog_mem e o2 o).1 he with h | h
    ·exact hoe e h
    ·exact Bh_step hoe ((hoe2 e).1 h)
   ·have hall := tog_full (o := o) (ms := o2) (by omega)
    refine (tog_mem e o2 o).2 (.inr ((hoe2 e).2 ?_))
    obtain ⟨f, hf, g⟩ := he
    refine ⟨f, ?_, g⟩
    rcases (tog_mem f o2 o).1 hf with h | h
    ·exact h
    ·exact hall f h
  ·unfold b45j2
   exact ⟨⟨o, ⟨os, rfl, h3⟩, ho, Bh_rep hfo hoe (hcl (by omega))⟩, le_trans' l9 l2⟩
theorem Bh_whole {P : List Nat → Prop} {w : List Nat} : Bh P w [0] w.length ↔ P w := by
 constructor
 ·rintro ⟨f, hf, _, _, h⟩
  simp at hf
  subst hf
  simpa [slc] using h
 ·intro h
  exact ⟨0, by simp, by omega, Nat.le_refl _, by simpa [slc] using h⟩
theorem refmatches_spec {s : Sl} {l : List Nd} (hs : RdS F s 5 (nflat l)) (st : ByteArray) (hst : st.size ≤ 100000) : Spec prog 24 #[s.v, .string st] F fun r F' => (∃ q : Bool, r = .bool q ∧ (q = true ↔ chkP l = 0 ∧ LgL l (bs st))) ∧ F.le F' := by
 refine c24 ?_
 unfold b24
 refine (refcheck_spec hs).mono ?_
 rintro _ F2 ⟨rfl, l2⟩
 refine ⟨_, rfl, fun h0 => ?_, fun h0 => ⟨⟨false, rfl, fun h => (by cases h), fun h => absurd h.1 h0⟩, l2⟩⟩
 obtain ⟨hG, hl⟩ := chkP_zero h0
 obtain ⟨ns, ht⟩ := treeL_spec hG
 have hlen := hs.nlen
 have hne := List.length_pos_iff.2 hG.ne
 have ew : IntKind.i64.wrap ((s.len : Int) - 1) = ((l.length - 1 : Nat) : Int) := by rw [hlen, w64_eq (by omega) (by omega)]; omega
 rw [ew]
 intro b14 hb14
 refine atI ?_
 have l14 : F2.le (F2.set b14 (.cells #[.int .i64 0] 3)) := le_set_fresh _ hb14
 have q14 := set_eq F2 b14 (.cells #[.int .i64 0] 3)
 generalize F2.set b14 (.cells #[.int .i64 0] 3) = F3 at *
 refine (behind_ref hst ht (s2 := ⟨some ⟨b14, 0, none⟩, 1, 1⟩) (fr := [0]) (hs.le (le_trans' l2 l14)) (RdS.new q14 rfl rfl (Nat.le_refl _)) (by simp) (by simp)).mono ?_
 rintro _ F4 ⟨⟨o, ⟨s4, rfl, h4⟩, ho, hoe⟩, l4⟩
 refine ⟨s4, rfl, ?_⟩
 have n2 := few_of_nodup ho (Bh_le hoe)
 rw [bs_length] at n2
 refine (has_ref h4 (by omega) st.size).mono ?_
 rintro _ F5 ⟨rfl, e⟩
 obtain rfl := e.symm
 refine ⟨_, rfl, ⟨_, rfl, ?_⟩, le_trans' (le_trans' l2 l14) l4⟩
 rw [decide_eq_true_eq, hoe, ← bs_length, Bh_whole]
 exact ⟨fun h => ⟨h0, h⟩, fun h => h.2⟩
theorem reflongest_spec {s : Sl} {l : List Nd} (hs : RdS F s 5 (nflat l)) (st : ByteArray) (hst : st.size ≤ 100000) (at_ : Int) : Spec prog 18 #[s.v, .string st, vi at_] F fun r F' =>
  ((¬ (chkP l = 0 ∧ 0 ≤ at_ ∧ at_ ≤ st.size) ∧ r = .tuple #[vi 0, .bool false]) ∨
   (chkP l = 0 ∧ 0 ≤ at_ ∧ at_ ≤ st.size ∧ ∃ b, Best (fun n => LgL l (((bs st).drop at_.toNat).take n)) (st.size - at_.toNat) b ∧ r = .tuple #[vi b, .bool (decide (0 < b))])) ∧ F.le F' := by
 refine c18 ?_
 unfold b18
 refine (refcheck_spec hs).mono ?_
 rintro _ F2 ⟨rfl, l2⟩
 refine ⟨_, rfl, fun h0 => ⟨.inl ⟨fun h => h0 h.1, rfl⟩, l2⟩, fun h0 => ⟨fun h1 => ⟨.inl ⟨by omega, rfl⟩, l2⟩, fun h1 => ⟨fun h2 => ⟨.inl ⟨by omega, rfl⟩, l2⟩, fun h2 => ?_⟩⟩⟩
 have h0' : chkP l = 0 := by omega
 obtain ⟨a, rfl⟩ := Int.eq_ofNat_of_zero_le (by omega : 0 ≤ at_)
 obtain ⟨hG, hl⟩ := chkP_zero h0'
 obtain ⟨ns, ht⟩ := treeL_spec hG
 have hlen := hs.nlen
 have hne := List.length_pos_iff.2 hG.ne
 have hwl := bs_length st
 have ew : IntKind.i64.wrap ((s.len : Int) - 1) = ((l.length - 1 : Nat) : Int) := by rw [hlen, w64_eq (by omega) (by omega)]; omega
 rw [ew]
 intro b14 hb14
 refine atI ?_
 have l14 : F2.le (F2.set b14 (.cells #[.int .i64 a] 3)) := le_set_fresh _ hb14
 have q14 := set_eq F2 b14 (.cells #[.int .i64 a] 3)
 generalize F2.set b14 (.cells #[.int .i64 a] 3) = F3 at *
 refine (behind_ref hst ht (s2 := ⟨some ⟨b14, 0, none⟩, 1, 1⟩) (fr := [a]) (hs.le (le_trans' l2 l14)) (RdS.new q14 rfl rfl (Nat.le_refl _)) (by simp) (by simp; omega)).mono ?_
 rintro _ F4 ⟨⟨o, ⟨s4, rfl, h4⟩, ho, hoe⟩, l4⟩
 refine ⟨s4, rfl, ?_⟩
 have n2 := few_of_nodup ho (Bh_le hoe)
 have hl4 := il_len h4
 have hol := Bh_le hoe
 have hoa : ∀ e ∈ o, a ≤ e ∧ LgL l (((bs st).drop a).take (e - a)) := fun e he => by
  obtain ⟨f, hf, g1, g2, g3⟩ := (hoe e).1 he
  simp at hf
  subst hf
  exact ⟨g1, g3⟩
 refine ⟨fun m best i F' => ∃ j b : Nat, i = j ∧ best = b ∧ j ≤ o.length ∧ m = o.length - j ∧ F' = F4 ∧ (b = 0 ∨ a + b ∈ o) ∧ ∀ e ∈ o.take j, e ≤ a + b, o.length, ⟨0, 0, rfl, rfl, by omega, rfl, rfl, .inl rfl, by simp⟩, ?_⟩
 rintro _ _ _ F5 ⟨j, b, rfl, rfl, hj, rfl, e, hb, hbm⟩
 obtain rfl := e.symm
 unfold b18L1
 refine ⟨fun hlt => ?_, fun hge => ?_⟩
 ·have hjl : j < o.length := by omega
  obtain ⟨ad, had, hc⟩ := il_cell h4 hjl
  have hm := List.getElem_mem hjl
  obtain ⟨g1, g2⟩ := hoa _ hm
  have g3 := hol _ hm
  refine ⟨ad, had, by omega, by omega, _, hc, o.length - (j + 1), by omega, j + 1, max b (o[j] - a), w64s (by omega), ?_, by omega, rfl, rfl, ?_, fun e he => ?_⟩
  ·rw [w64_eq (by omega) (by omega)]
   omega
  ·by_cases hlt2 : o[j] - a ≤ b
   ·rw [Nat.max_eq_left hlt2]
    exact hb
   ·rw [Nat.max_eq_right (by omega)]
    right
    rw [show a + (o[j] - a) = o[j] by omega]
    exact hm
  ·rw [List.take_add_one, List.getElem?_eq_getElem hjl] at he
   simp only [Option.toList_some, List.mem_append, List.mem_singleton] at he
   rcases he with he | rfl
   ·have := hbm e he
    omega
   ·omega
 ·unfold b18j1
  obtain rfl : j = o.length := by omega
  rw [List.take_length] at hbm
  refine ⟨.inr ⟨h0', by omega, by omega, b, ⟨?_, ?_, fun m hm1 hm2 hL => ?_⟩, ?_⟩, le_trans' (le_trans' l2 l14) l4⟩
  ·rcases hb with rfl | hb
   ·omega
   ·have := hol _ hb
    rw [Int.toNat_natCast]
    omega
  ·rcases hb with rfl | hb
   ·exact .inl rfl
   ·right
    have := (hoa _ hb).2
    rw [show a + b - a = b by omega] at this
    rw [Int.toNat_natCast]
    exact this
  ·rw [Int.toNat_natCast] at hm2 hL
   have : a + m ∈ o := (hoe _).2 ⟨a, by simp, by omega, by omega, by unfold slc; rw [show a + m - a = m by omega]; exact hL⟩
   have := hbm _ this
   omega
  ·congr 3
   simp
end
def LongP (l : List Nd) (st : ByteArray) (at_ : Int) (r : Value) : Prop :=
 (¬ (chkP l = 0 ∧ 0 ≤ at_ ∧ at_ ≤ st.size) ∧ r = .tuple #[vi 0, .bool false]) ∨
  (chkP l = 0 ∧ 0 ≤ at_ ∧ at_ ≤ st.size ∧ ∃ b, Best (fun n => LgL l (((bs st).drop at_.toNat).take n)) (st.size - at_.toNat) b ∧ r = .tuple #[vi b, .bool (decide (0 < b))])
theorem LongP.uniq {l : List Nd} {st : ByteArray} {at_ : Int} {r q : Value} (h : LongP l st at_ r) (k : LongP l st at_ q) : r = q := by
 rcases h with ⟨h1, rfl⟩ | ⟨h1, h2, h3, b, hb, rfl⟩ <;> rcases k with ⟨k1, rfl⟩ | ⟨k1, k2, k3, c, hc, rfl⟩
 ·rfl
 ·exact absurd ⟨k1, k2, k3⟩ h1
 ·exact absurd ⟨h1, h2, h3⟩ k1
 ·rw [hb.uniq hc]
theorem LongP.pair {l : List Nd} {st : ByteArray} {at_ : Int} {r : Value} (h : LongP l st at_ r) : ∃ (n : Int) (b : Bool), r = .tuple #[vi n, .bool b] := by
 rcases h with ⟨_, rfl⟩ | ⟨_, _, _, b, _, rfl⟩
 ·exact ⟨_, _, rfl⟩
 ·exact ⟨_, _, rfl⟩
section
variable {F0 F : PH}
theorem literal_ref (F : PH) (st : ByteArray) (hsz : st.size ≤ 9000000000000000) : Spec prog 37 #[.string st] F fun r F' => PatR F' r (litR st) ∧ F.le F' := by
 refine c37 ?_
 unfold b37
 refine ⟨fun h => ?_, fun h => ⟨fun h0 => ?_, fun h0 => ?_⟩⟩
 ·have e : litR st = ([], 2) := by unfold litR; rw [if_pos (by omega)]
  rw [e]
  exact ⟨⟨_, rfl, PatV.nil F⟩, le_refl' F⟩
 ·have hb : bs st = [] := by
   rw [beq_bs] at h0
   exact of_decide_eq_true h0
  have e : litR st = (Pat.emp.nodes 0, 0) := by unfold litR; rw [if_neg (by omega), hb]; rfl
  rw [e]
  refine (empty_ref F).mono ?_
  rintro _ F' ⟨⟨s, rfl, hs⟩, hl⟩
  exact ⟨s, rfl, ⟨_, rfl, ⟨_, rfl, hs⟩⟩, hl⟩
 ·have hb : bs st ≠ [] := by
   rw [beq_bs] at h0
   exact of_decide_eq_false h0
  have hwl := bs_length st
  have hpos : 0 < st.size := by rw [← hwl]; exact List.length_pos_iff.2 hb
  have e : litR st = ((litT (bs st)).nodes 0, 0) := by unfold litR; rw [if_neg (by omega)]
  rw [e]
  have hget : ∀ (f : Nat) (hf : f < (bs st).length) (hx : f < st.size), IntKind.i64.wrap ((st[f]'hx).toNat : Int) = (((bs st)[f] : Nat) : Int) := fun f hf hx => by
   have e : (st[f]'hx).toNat = (bs st)[f] := by
    have := bs_cb st f
    rw [List.getD_eq_getElem?_getD, List.getElem?_eq_getElem hf] at this
    unfold cb at this
    rw [dif_pos hx] at this
    exact this
   have h256 := bs_lt st _ (List.getElem_mem hf)
   rw [e, w64_eq (by omega) (by omega)]
  have h0' : (Int.toNat 0) < st.size := hpos
  refine ⟨by omega, by omega, h0', _, rfl, by omega, by omega, h0', _, rfl, ?_⟩
  have g0 := hget 0 (by omega) hpos
  have g0' : IntKind.i64.wrap ((st[Int.toNat 0]'h0').toNat : Int) = (((bs st)[0] : Nat) : Int) := g0
  rw [g0']
  refine (one_ref F _ _).mono ?_
  rintro _ F1 ⟨⟨s, rfl, hs⟩, l1⟩
  have h1 : [(⟨1, (((bs st)[0] : Nat) : Int), (((bs st)[0] : Nat) : Int), 0, 0⟩ : Nd)] = (litT ((bs st).take 1)).nodes 0 := by
   have : (bs st).take 1 = [(bs st)[0]] := by
    rw [List.take_one, List.head?_eq_getElem?, List.getElem?_eq_getElem (by omega)]
    rfl
   rw [this]
   rfl
  rw [h1] at hs
  refine ⟨s, rfl, fun m s i F' => ∃ w : Nat, i = w ∧ 1 ≤ w ∧ w ≤ st.size ∧ m = st.size - w ∧ F.le F' ∧ RdS F' s 5 (nflat ((litT ((bs st).take w)).nodes 0)), st.size - 1, ⟨1, rfl, by omega, by omega, rfl, l1, hs⟩, ?_⟩
  clear hs l1 h1
  rintro _ s _ F2 ⟨w, rfl, hw1, hw, rfl, l2, hs⟩
  unfold b37L1
  refine ⟨fun hlt => ?_, fun hge => ?_⟩
  ·have hwl2 : w < (bs st).length := by omega
   have hw' : Int.toNat (w : Int) < st.size := by rw [Int.toNat_natCast]; omega
   refine ⟨by omega, by omega, hw', _, rfl, by omega, by omega, hw', _, rfl, ?_⟩
   have gw : IntKind.i64.wrap ((st[Int.toNat (w : Int)]'hw').toNat : Int) = (((bs st)[w] : Nat) : Int) := hget w hwl2 (by omega)
   rw [gw]
   have hne : (bs st).take w ≠ [] := fun e => by
    have := congrArg List.length e
    rw [List.length_take] at this
    simp at this
    rcases this with h | h
    ·omega
    ·exact hb h
   have hsz1 := lit_size _ hne
   rw [List.length_take, Nat.min_eq_left (by omega)] at hsz1
   refine (one_ref F2 _ _).mono ?_
   rintro _ F3 ⟨⟨s3, rfl, hs3⟩, l3⟩
   refine ⟨s3, rfl, ?_⟩
   refine (join_ref 2 (hs.le l3) hs3 (by rw [Pat.nodes_length]; omega) (by simp)).mono ?_
   rintro _ F4 ⟨⟨s4, rfl, hs4⟩, l4⟩
   refine ⟨s4, rfl, st.size - (w + 1), by omega, w + 1, w64s (by omega), by omega, by omega, rfl, le_trans' l2 (le_trans' l3 l4), ?_⟩
   have e2 : [(⟨1, (((bs st)[w] : Nat) : Int), (((bs st)[w] : Nat) : Int), 0, 0⟩ : Nd)] = (Pat.rng (bs st)[w] (bs st)[w]).nodes 0 := rfl
   rw [e2, joinL_seq _ _ (by simp only [Pat.size]; omega)] at hs4
   rw [List.take_add_one, List.getElem?_eq_getElem hwl2, Option.toList_some, lit_snoc _ _ hne]
   exact hs4
  ·unfold b37j1
   obtain rfl : w = st.size := by omega
   rw [List.take_of_length_le (by omega)] at hs
   exact ⟨⟨_, rfl, ⟨_, rfl, hs⟩⟩, l2⟩
theorem law13_spec (hT : Tab F) {s : Sl} {l : List Nd} (hr : RdS F s 5 (nflat l)) (st : ByteArray) (at_ : Int) : Spec prog 13 #[s.v, .string st, vi at_] F fun r F' => r = .bool true ∧ F.le F' := by
 refine c13 ?_
 unfold b13
 refine (sanity_spec hT).mono ?_
 rintro _ F1 ⟨rfl, l1⟩
 refine ⟨_, rfl, fun h => ⟨rfl, l1⟩, fun h20 => ⟨fun h => ⟨rfl, l1⟩, fun h300 => ?_⟩⟩
 refine (literal_spec F1 st (by omega)).mono ?_
 rintro _ F2 ⟨⟨_, rfl, s2, rfl, hs2⟩, l2⟩
 refine ⟨s2, _, rfl, ?_⟩
 refine (literal_ref F2 st (by omega)).mono ?_
 rintro _ F3 ⟨⟨_, rfl, s3, rfl, hs3⟩, l3⟩
 refine ⟨s3, _, rfl, fun h => absurd rfl h, fun _ => ?_⟩
 have hnl := hs2.nlen
 have hll : (litR st).1.length ≤ 1000000 := by
  unfold litR
  split
  ·simp
  ·simp only [Pat.nodes_length]
   by_cases hb : bs st = []
   ·rw [hb]; decide
   ·rw [lit_size _ hb, bs_length]; omega
 refine (same_spec hll (hs2.le l3) hs3).mono ?_
 rintro _ F4 ⟨rfl, e⟩
 obtain rfl := e.symm
 refine ⟨_, rfl, fun h => by simp at h, fun _ => ?_⟩
 have l13 := le_trans' l1 (le_trans' l2 l3)
 refine (check_spec (hr.le l13)).mono ?_
 rintro _ F5 ⟨rfl, l5⟩
 refine ⟨_, rfl, ?_⟩
 have l15 := le_trans' l13 l5
 refine (refcheck_spec (hr.le l15)).mono ?_
 rintro _ F6 ⟨rfl, l6⟩
 have l16 := le_trans' l15 l6
 refine ⟨_, rfl, fun h => absurd rfl h, fun _ => ⟨fun h => ⟨rfl, l16⟩, fun h24 => ?_⟩⟩
 refine (longest_spec (hT.le l16) (hr.le l16) st (by omega) at_).mono ?_
 rintro _ F7 ⟨hn, l7⟩
 obtain ⟨n, ok, rfl⟩ := LongP.pair hn
 refine ⟨n, ok, rfl, ?_⟩
 have l17 := le_trans' l16 l7
 refine (reflongest_spec (hr.le l17) st (by omega) at_).mono ?_
 rintro _ F8 ⟨hm, l8⟩
 have e4 := LongP.uniq (show LongP _ _ _ _ from hm) (show LongP _ _ _ _ from hn)
 subst e4
 refine ⟨n, ok, rfl, ?_⟩
 have l18 := le_trans' l17 l8
 refine (print_spec (hr.le l18)).mono ?_
 rintro _ F9 ⟨⟨_, rfl, x, rfl, hx⟩, l9⟩
 refine ⟨x, _, rfl, ?_⟩
 have l19 := le_trans' l18 l9
 refine (refprint_spec (hr.le l19)).mono ?_
 rintro _ F10 ⟨⟨_, rfl, y, rfl, hy⟩, l10⟩
 refine ⟨y, _, rfl, ?_⟩
 have hxy : (x.toList == y.toList) = true := by rw [beq_bs, hx, hy]; simp
 have l20 := le_trans' l19 l10
 refine (matches_spec (hT.le l20) (hr.le l20) st (by omega)).mono ?_
 rintro _ F11 ⟨⟨q1, rfl, hq1⟩, l11⟩
 refine ⟨q1, rfl, ?_⟩
 have l21 := le_trans' l20 l11
 refine (refmatches_spec (hr.le l21) st (by omega)).mono ?_
 rintro _ F12 ⟨⟨q2, rfl, hq2⟩, l12⟩
 have hq : q1 = q2 := Bool.eq_iff_iff.2 (hq1.trans hq2.symm)
 subst hq
 refine ⟨q1, rfl, fun _ => ⟨fun _ => ⟨fun _ => ⟨fun _ => ⟨fun _ => ⟨rfl, le_trans' l21 l12⟩, fun h => absurd rfl h⟩, fun h => ?_⟩, fun h => ?_⟩, fun h => absurd rfl h⟩, fun h => ?_⟩
 ·rw [hxy] at h; cases h
 ·simp at h
 ·simp at h
end
end Go.Proofs.YtnjcgpihfmklfaaDoor
