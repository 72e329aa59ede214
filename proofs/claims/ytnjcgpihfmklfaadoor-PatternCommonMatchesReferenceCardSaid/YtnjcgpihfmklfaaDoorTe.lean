/-
  PatternMatchesReference; the reference's Literal; PatternAnyMatchesReference.
-/
import Derived.Test.YtnjcgpihfmklfaaDoorQm
import Derived.Test.YtnjcgpihfmklfaaDoorGo
import Derived.Test.YtnjcgpihfmklfaaDoorQo
import Derived.Test.YtnjcgpihfmklfaaDoorQh
import Derived.Test.YtnjcgpihfmklfaaDoorQx
import Derived.Test.YtnjcgpihfmklfaaDoorSj
import Derived.Test.YtnjcgpihfmklfaaDoorGh
import Derived.Test.YtnjcgpihfmklfaaDoorSm
import Derived.Test.YtnjcgpihfmklfaaDoorGt
import Derived.Test.YtnjcgpihfmklfaaDoorGL13
namespace Go.Proofs.YtnjcgpihfmklfaaDoor
open Go Go.Proofs.Tryd
set_option maxRecDepth 10000
theorem ex_int {F : PH} {a : Addr} {y : Int} {K : Int → Prop} (h : F.cell a = some (vi y)) : (∃ v : Int, F.cell a = some (.int .i64 v) ∧ K v) ↔ K y :=
 ⟨fun ⟨v, hv, k⟩ => by rw [h] at hv; cases hv; exact k, fun k => ⟨y, h, k⟩⟩
theorem opsN_ar {k : Int} (h : 0 ≤ k ∧ k ≤ 4) : opsN k = ar k ∧ 0 ≤ ar k := by
 unfold opsN ar
 split
 ·exact ⟨rfl, by omega⟩
 ·split
  ·exact ⟨rfl, by omega⟩
  ·rw [if_pos (by omega)]; exact ⟨rfl, by omega⟩
theorem ar_known {k : Int} (h : 0 ≤ ar k) : 0 ≤ k ∧ k ≤ 4 := by have := ar_kinds h; omega
section
variable {F : PH}
theorem valid_ref {s : Sl} {l : List Nd} (hs : RdS F s 5 (nflat l)) {i : Nat} {x : Nd} (hx : l[i]? = some x) (hi9 : (i : Int) < 9223372036854775807) : Spec prog 51 #[s.v, vi i] F fun r F' => (∃ b : Bool, r = .bool b ∧ (b = true ↔ okN i x)) ∧ F.le F' := by
 obtain ⟨a, ha, hrow⟩ := rdn hs hx
 have hlen := hs.nlen
 have hi := (List.getElem?_eq_some_iff.1 hx).1
 refine c51 ?_
 unfold b51
 refine ⟨a, ha, by omega, by omega, x.arr, rfl, hrow, fun b5 hb5 => ?_⟩
 refine atI ?_
 refine stW (set_eq _ _ _) rfl rfl (st_narr x) ?_
 rw [set_twice]
 have l5 : F.le (F.set b5 (.cells x.arr 50)) := le_set_fresh _ hb5
 have q5 := set_eq F b5 (.cells x.arr 50)
 generalize F.set b5 (.cells x.arr 50) = F1 at *
 have c0 : F1.cell (Addr.mk b5 0 none) = some (vi x.k) := by rw [cell_eq q5]; rfl
 have c1 : F1.cell (Addr.mk b5 1 none) = some (vi x.lo) := by rw [cell_eq q5]; rfl
 have c2 : F1.cell (Addr.mk b5 2 none) = some (vi x.hi) := by rw [cell_eq q5]; rfl
 have c3 : F1.cell (Addr.mk b5 3 none) = some (vi x.a) := by rw [cell_eq q5]; rfl
 have c4 : F1.cell (Addr.mk b5 4 none) = some (vi x.b) := by rw [cell_eq q5]; rfl
 refine ⟨x.k, c0, ?_⟩
 refine (operands_spec F1 x.k).mono ?_
 rintro _ F2 ⟨rfl, e⟩
 obtain rfl := e.symm
 have K : ∀ b : Bool, (b = true ↔ okN i x) → (∃ b' : Bool, Value.bool b = .bool b' ∧ (b' = true ↔ okN i x)) ∧ F.le F1 := fun b hb => ⟨⟨b, rfl, hb⟩, l5⟩
 refine ⟨_, _, rfl, fun hk => K _ ?_, fun hk => ?_⟩
 ·have hk' : ¬ (0 ≤ x.k ∧ x.k ≤ 4) := by
   have : decide (0 ≤ x.k ∧ x.k ≤ 4) = false := by simpa only [knownK, Bool.not_eq_true'] using hk
   exact of_decide_eq_false this
  exact ⟨fun h => by (cases h), fun h => absurd (ar_known h.1) hk'⟩
 have hk' : 0 ≤ x.k ∧ x.k ≤ 4 := by simpa [knownK] using hk
 obtain ⟨hn, hn0⟩ := opsN_ar hk'
 rw [hn]
 clear hk hn
 have f1 : ∀ (P : Prop), ¬ P → (false = true ↔ P) := fun P h => ⟨fun h => by (cases h), fun h' => absurd h' h⟩
 have t1 : ∀ (P : Prop), P → (true = true ↔ P) := fun P h => ⟨fun _ => h, fun _ => rfl⟩
 -- the operands
 have j2 : (ar x.k < 1 → x.a = 0) → (ar x.k < 2 → x.b = 0) → (x.k = 1 → 0 ≤ x.lo ∧ x.lo ≤ x.hi ∧ x.hi ≤ 255) → (x.k ≠ 1 → x.lo = 0 ∧ x.hi = 0) → b51j2 i b5 (ar x.k) (fun r F' => (∃ b' : Bool, r = .bool b' ∧ (b' = true ↔ okN i x)) ∧ F.le F') F1 := fun ha hb h1 h2 => by
  have e : okN i x ↔ (1 ≤ ar x.k → 0 ≤ x.a ∧ x.a < i) ∧ (2 ≤ ar x.k → 0 ≤ x.b ∧ x.b < i) := ⟨fun h => ⟨h.2.2.2.2.2.1, h.2.2.2.2.2.2⟩, fun h => ⟨hn0, h1, h2, ha, hb, h.1, h.2⟩⟩
  unfold b51j2
  simp only [ex_int c3, ex_int c4]
  refine ⟨fun h => ⟨fun h' => K _ (t1 _ (e.2 ⟨by omega, by omega⟩)), fun h' => absurd h' (by omega)⟩, fun h => ⟨fun h3 => ⟨fun h4 => ⟨fun h5 => K _ (t1 _ (e.2 ⟨fun _ => ⟨h3, h4⟩, by omega⟩)), fun h5 => ⟨fun h6 => K _ ?_, fun h6 => K _ (f1 _ fun ho => h6 ((e.1 ho).2 (by omega)).1)⟩⟩, fun h4 => K _ (f1 _ fun ho => h4 ((e.1 ho).1 (by omega)).2)⟩, fun h3 => K _ (f1 _ fun ho => h3 ((e.1 ho).1 (by omega)).1)⟩⟩
  rw [decide_eq_true_eq, e]
  exact ⟨fun h7 => ⟨fun _ => ⟨h3, h4⟩, fun _ => ⟨h6, h7⟩⟩, fun h7 => (h7.2 (by omega)).2⟩
 have j1 : (x.k = 1 → 0 ≤ x.lo ∧ x.lo ≤ x.hi ∧ x.hi ≤ 255) → (x.k ≠ 1 → x.lo = 0 ∧ x.hi = 0) → b51j1 i b5 (ar x.k) (fun r F' => (∃ b' : Bool, r = .bool b' ∧ (b' = true ↔ okN i x)) ∧ F.le F') F1 := fun h1 h2 => by
  unfold b51j1
  simp only [ex_int c3, ex_int c4]
  refine ⟨fun h => ⟨fun h3 => K _ (f1 _ fun ho => h3 (ho.2.2.2.1 h)), fun h3 => ⟨fun h4 => ⟨fun h5 => K _ (f1 _ fun ho => h5 (ho.2.2.2.2.1 h4)), fun h5 => j2 (fun _ => by omega) (fun _ => by omega) h1 h2⟩, fun h4 => absurd h4 (by omega)⟩⟩, fun h => ⟨fun h4 => ⟨fun h5 => K _ (f1 _ fun ho => h5 (ho.2.2.2.2.1 h4)), fun h5 => j2 (fun h => by omega) (fun _ => by omega) h1 h2⟩, fun h4 => j2 (fun h => by omega) (fun h => by omega) h1 h2⟩⟩
 simp only [ex_int c0, ex_int c1, ex_int c2]
 refine ⟨fun h => ⟨fun h1 => K _ (f1 _ fun ho => h1 (ho.2.2.1 h).1), fun h1 => ⟨fun h2 => K _ (f1 _ fun ho => h2 (ho.2.2.1 h).2), fun h2 => ⟨fun h3 => absurd h3 (by omega), fun h3 => ⟨fun h4 => absurd h4 (by omega), fun h4 => ⟨fun h5 => absurd h5 (by omega), fun h5 => j1 (fun h6 => absurd h6 h) (fun _ => ⟨by omega, by omega⟩)⟩⟩⟩⟩⟩,
  fun h => ⟨fun h1 => K _ (f1 _ fun ho => by have := ho.2.1 (by omega); omega), fun h1 => ⟨fun h2 => K _ (f1 _ fun ho => by have := ho.2.1 (by omega); omega), fun h2 => ⟨fun h3 => K _ (f1 _ fun ho => by have := ho.2.1 (by omega); omega), fun h3 => j1 (fun _ => ⟨by omega, by omega, by omega⟩) (fun h6 => absurd (by omega) h6)⟩⟩⟩⟩
def cnts (n : Nat) (W : List Int) : List Value := (List.range n).map fun (i : Nat) => vi (W.count (i : Int) : Nat)
theorem cnts_get {n : Nat} {W : List Int} {i : Nat} (hi : i < n) : (cnts n W).toArray[i]? = some (vi (W.count (i : Int) : Nat)) := by
 simp [cnts, hi]
theorem cnts_set (n : Nat) (W : List Int) (i : Nat) (hi : i < n) : (cnts n W).toArray.setIfInBounds i (vi ((W.count (i : Int) + 1 : Nat) : Int)) = (cnts n ((i : Int) :: W)).toArray := by
 apply Array.ext'
 rw [Array.toList_setIfInBounds]
 apply List.ext_getElem?
 intro j
 rw [List.getElem?_set]
 simp only [cnts, List.length_map, List.length_range, List.getElem?_map]
 by_cases h : i = j
 ·subst h
  rw [if_pos rfl, if_pos hi, List.getElem?_range hi]
  simp
 ·rw [if_neg h]
  by_cases hj : j < n
  ·rw [List.getElem?_range hj]
   simp only [Option.map_some]
   rw [List.count_cons_of_ne (by omega)]
  ·rw [List.getElem?_eq_none (by simp; omega)]
   rfl
structure Cnt (F0 F : PH) (u n : Nat) (W : List Int) : Prop where
 zu : F0 u = none
 le : F0.le F
 qu : F u = some (.cells (cnts n W).toArray 3)
theorem Cnt.cell {F0 F : PH} {u n : Nat} {W : List Int} (h : Cnt F0 F u n W) {k : Int} (h0 : 0 ≤ k) (h1 : k < n) : F.cell ((Addr.mk u 0 none).add (Int.toNat k * 1)) = some (vi (W.count k : Nat)) := by
 obtain ⟨i, rfl⟩ := Int.eq_ofNat_of_zero_le h0
 rw [Int.toNat_natCast, Nat.mul_one, show (Addr.mk u 0 none).add i = ⟨u, i, none⟩ by simp [Addr.add, Nat.zero_add]; omega, cell_eq h.qu]
 exact cnts_get (by omega)
theorem Cnt.inc {F0 F : PH} {u n : Nat} {W : List Int} (h : Cnt F0 F u n W) {k : Int} (h0 : 0 ≤ k) (h1 : k < n) (hW : W.length ≤ 100000) {K : PH → Prop} (hk : ∀ F', Cnt F0 F' u n (k :: W) → K F') :
  ∃ c e, F (Addr.add (Addr.mk u 0 none) (Int.toNat k * 1)).block = some (.cells c e (0, 0)) ∧ (Addr.add (Addr.mk u 0 none) (Int.toNat k * 1)).spot = none ∧ (Addr.add (Addr.mk u 0 none) (Int.toNat k * 1)).off < c.size ∧
   atF (F.set (Addr.add (Addr.mk u 0 none) (Int.toNat k * 1)).block (.cells (c.setIfInBounds (Addr.add (Addr.mk u 0 none) (Int.toNat k * 1)).off (.int .i64 (IntKind.i64.wrap ((W.count k : Nat) + (1 : Int))))) e)) K := by
 obtain ⟨i, rfl⟩ := Int.eq_ofNat_of_zero_le h0
 have hc : W.count (i : Int) ≤ W.length := List.count_le_length
 rw [w64s (by omega)]
 refine st1' (b := u) (o := i) (by rw [Int.toNat_natCast, Nat.mul_one]; simp [Addr.add]; omega) h.qu (by simp [cnts]; omega) ?_
 rw [cnts_set n W i (by omega)]
 exact hk _ ⟨h.zu, le_set_new h.le h.zu, set_eq _ _ _⟩
theorem usL_len : ∀ (l : List Nd), (usL l).length ≤ 2 * l.length
 | [] => Nat.le_refl _
 | x :: l => by
  have := usL_len l
  have : (us x).length ≤ 2 := by unfold us; split <;> (try split) <;> simp
  simp only [usL, List.length_append, List.length_cons]
  omega
def OkTo (l : List Nd) (j : Nat) : Prop := ∀ i x, i < j → l[i]? = some x → okN i x
theorem usL_bound {l : List Nd} {j : Nat} (h : OkTo l j) : ∀ k ∈ usL (l.take j), 0 ≤ k ∧ k + 1 < j := by
 induction j with
 | zero => intro k hk; simp [usL] at hk
 | succ j ih =>
  intro k hk
  by_cases hj : j < l.length
  ·have hx := List.getElem?_eq_getElem hj
   have ho := h j _ (by omega) hx
   rw [List.take_add_one, hx] at hk
   simp only [Option.toList_some, usL_snoc, List.mem_append] at hk
   rcases hk with hk | hk
   ·unfold us at hk
    obtain ⟨h0, h1, h2, h3, h4, h5, h6⟩ := ho
    split at hk
    ·rename_i h2'
     have := h5 (by omega)
     have := h6 (by omega)
     simp at hk
     rcases hk with rfl | rfl <;> omega
    ·split at hk
     ·rename_i h1'
      have := h5 (by omega)
      simp at hk
      subst hk
      omega
     ·simp at hk
   ·have := ih (fun i x hi => h i x (by omega)) k hk
    omega
  ·rw [List.take_of_length_le (by omega)] at hk
   have := ih (fun i x hi => h i x (by omega)) k (by rw [List.take_of_length_le (by omega)]; exact hk)
   omega
theorem good_cnt {l : List Nd} (h : OkTo l l.length) : GoodL l ↔ l ≠ [] ∧ ∀ i : Nat, i + 1 < l.length → (usL l).count (i : Int) = 1 := by
 have hb := usL_bound h
 rw [List.take_length] at hb
 constructor
 ·rintro ⟨h1, h2, h3, h4⟩
  refine ⟨h1, fun i hi => ?_⟩
  have := List.nodup_iff_count.1 h3 (i : Int)
  have := List.count_pos_iff.2 (h4 i hi)
  omega
 ·rintro ⟨h1, h2⟩
  refine ⟨h1, fun i x hx => h i x (List.getElem?_eq_some_iff.1 hx).1 hx, List.nodup_iff_count.2 fun a => ?_, fun i hi => List.count_pos_iff.1 (by rw [h2 i hi]; decide)⟩
  by_cases ha : a ∈ usL l
  ·obtain ⟨a0, a1⟩ := hb a ha
   obtain ⟨k, rfl⟩ := Int.eq_ofNat_of_zero_le a0
   rw [h2 k (by omega)]
   exact Nat.le_refl _
  ·rw [List.count_eq_zero.2 ha]
   omega
theorem sz3r : tsz prog 3 = some (1, 8) := by kernel_rfl
theorem zr3r : tzero prog 3 = some (.int .i64 0) := by kernel_rfl
theorem u53r : prog.underlying 53 = some (.slice 3) := by kernel_rfl
theorem refcheck_spec {s : Sl} {l : List Nd} (hs : RdS F s 5 (nflat l)) : Spec prog 22 #[s.v] F fun r F' => r = vi (chkP l) ∧ F.le F' := by
 have hlen := hs.nlen
 refine c22 ?_
 unfold b22
 refine ⟨fun h => ⟨?_, le_refl' F⟩, fun h => ?_⟩
 ·have e : chkP l = 2 := by unfold chkP; rw [if_pos (by omega)]
  rw [e]
 have hl : l.length ≤ 512 := by omega
 refine runs_makeSlice u53r sz3r zr3r rfl (by omega) (Int.le_refl _) (by omega) (by omega) ?_
 intro u hu
 rw [zc1 _ rfl, Int.toNat_natCast, hlen]
 have em : (List.replicate l.length (Value.int .i64 0)).toArray = (cnts l.length []).toArray := by
  congr 1
  apply List.ext_getElem?
  intro j
  by_cases hj : j < l.length
  ·simp [cnts, hj]
  ·rw [List.getElem?_eq_none (by simp; omega), List.getElem?_eq_none (by simp [cnts]; omega)]
 rw [em]
 refine ⟨_, rfl, ?_⟩
 have hU : Cnt F (F.set u (.cells (cnts l.length []).toArray 3)) u l.length [] := ⟨hu, le_set_fresh _ hu, set_eq _ _ _⟩
 generalize F.set u (.cells (cnts l.length []).toArray 3) = F1 at *
 have bad : ∀ {F' : PH}, ¬ GoodL l → F.le F' → vi 40 = vi (chkP l) ∧ F.le F' := fun h hl' => ⟨by rw [chkP_bad hl h], hl'⟩
 refine ⟨fun m i F' => ∃ j : Nat, i = j ∧ j ≤ l.length ∧ m = l.length - j ∧ OkTo l j ∧ Cnt F F' u l.length (usL (l.take j)), l.length, ⟨0, rfl, by omega, rfl, fun i x hi => by omega, by simpa [usL] using hU⟩, ?_⟩
 clear hU
 rintro _ _ F2 ⟨j, rfl, hj, rfl, hg, hW⟩
 unfold b22L2
 refine ⟨fun hlt => ?_, fun hge => ?_⟩
 ·have hjl : j < l.length := by omega
  have hx : l[j]? = some l[j] := List.getElem?_eq_getElem hjl
  generalize l[j] = x at hx
  refine (valid_ref (hs.le hW.le) hx (by omega)).mono ?_
  rintro _ F3 ⟨⟨b, rfl, hb⟩, l3⟩
  have hW3 : Cnt F F3 u l.length (usL (l.take j)) := ⟨hW.zu, le_trans' hW.le l3, l3 _ _ hW.qu⟩
  refine ⟨b, rfl, fun hbf => bad (fun hG => ?_) hW3.le, fun hbt => ?_⟩
  ·have := hb.2 (hG.ok j x hx)
   rw [this] at hbf
   cases hbf
  have hok : okN j x := hb.1 (by simpa using hbt)
  have hok1 : OkTo l (j + 1) := fun i y hi hy => by
   by_cases hij : i = j
   ·subst hij; rw [hx] at hy; cases hy; exact hok
   ·exact hg i y (by omega) hy
  obtain ⟨a, ha, hrow⟩ := rdn (hs.le hW3.le) hx
  have hk4 := ar_known hok.1
  obtain ⟨hn, hn0⟩ := opsN_ar hk4
  have cl : ∀ {F' : PH}, F.le F' → ∀ (o : Nat) (y : Value), o < 5 → x.arr[o]? = some y → F'.cell ((a.add (j * 5)).add o) = some y := fun hle o y ho hy => by
   obtain ⟨a', ha', hrow'⟩ := rdn (hs.le hle) hx
   rw [ha] at ha'
   cases ha'
   have := hrow' o (by show o < 5; exact ho)
   rw [this]
   rw [← hy]
   exact (Array.getElem?_eq_getElem (xs := x.arr) (i := o) _).symm
  refine ⟨a, ha, by omega, by omega, x.k, by have := cl hW3.le 0 (vi x.k) (by omega) rfl; exact this, ?_⟩
  refine (operands_spec F3 x.k).mono ?_
  rintro _ F4 ⟨rfl, e⟩
  obtain rfl := e.symm
  refine ⟨_, _, rfl, ?_⟩
  rw [hn]
  have hlen2 : (usL (l.take j)).length ≤ 1024 := by have := usL_len (l.take j); rw [List.length_take] at this; omega
  have fin : ∀ F', Cnt F F' u l.length (us x ++ usL (l.take j)) → b22j3 (fun y2_0 F_1 => ∃ m', m' < l.length - j ∧ ∃ j : Nat, y2_0 = j ∧ j ≤ l.length ∧ m' = l.length - j ∧ OkTo l j ∧ Cnt F F_1 u l.length (usL (l.take j))) s ⟨some ⟨u, 0, none⟩, l.length, l.length⟩ j (fun r F' => r = vi (chkP l) ∧ F.le F') F' := fun F' hF' => by
   unfold b22j3
   refine ⟨l.length - (j + 1), by omega, j + 1, w64s (by omega), hjl, rfl, hok1, ?_⟩
   rw [List.take_add_one, hx]
   show Cnt F F' u l.length (usL (l.take j ++ [x]))
   rw [usL_snoc]
   exact hF'
  refine ⟨fun h1 => ?_, fun h1 => ?_⟩
  ·obtain ⟨a0, a1⟩ := hok.2.2.2.2.2.1 h1
   refine ⟨a, ha, by omega, by omega, x.a, cl hW3.le 3 (vi x.a) (by omega) rfl, _, rfl, a0, by simp only; omega, _, hW3.cell a0 (by omega), _, rfl, a0, by simp only; omega, ?_⟩
   refine hW3.inc a0 (by omega) (by omega) fun F5 hW5 => ?_
   unfold b22j4
   refine ⟨fun h2 => ?_, fun h2 => ?_⟩
   ·obtain ⟨b0, b1⟩ := hok.2.2.2.2.2.2 h2
    refine ⟨a, ha, by omega, by omega, x.b, cl hW5.le 4 (vi x.b) (by omega) rfl, _, rfl, b0, by simp only; omega, _, hW5.cell b0 (by omega), _, rfl, b0, by simp only; omega, ?_⟩
    refine hW5.inc b0 (by omega) (by simp only [List.length_cons]; omega) fun F6 hW6 => fin F6 ?_
    have : us x = [x.b, x.a] := by unfold us; rw [if_pos h2]
    rw [this]
    exact hW6
   ·refine fin F5 ?_
    have : us x = [x.a] := by unfold us; rw [if_neg h2, if_pos h1]
    rw [this]
    exact hW5
  ·unfold b22j4
   refine ⟨fun h2 => absurd h2 (by omega), fun h2 => fin F3 ?_⟩
   have : us x = [] := by unfold us; rw [if_neg h2, if_neg h1]
   rw [this]
   exact hW3
 ·obtain rfl : j = l.length := by omega
  rw [List.take_length] at hW
  have hgc := good_cnt hg
  unfold b22j1
  have ew : IntKind.i64.wrap ((s.len : Int) - 1) = (l.length : Int) - 1 := by rw [hlen, w64_eq (by omega) (by omega)]
  refine ⟨fun m i F' => ∃ j : Nat, i = j ∧ j ≤ l.length ∧ m = l.length - j ∧ F' = F2 ∧ ∀ i : Nat, i < j → (usL l).count (i : Int) = 1, l.length, ⟨0, rfl, by omega, rfl, rfl, fun i hi => by omega⟩, ?_⟩
  rintro _ _ F3 ⟨j, rfl, hj', rfl, e3, hall⟩
  obtain rfl := e3.symm
  unfold b22L1
  rw [ew]
  refine ⟨fun hlt => ?_, fun hge => ?_⟩
  ·refine ⟨_, rfl, by omega, by simp only; omega, _, hW.cell (k := (j : Int)) (by omega) (by omega), fun hm => bad (fun hG => ?_) hW.le, fun hm => ⟨l.length - (j + 1), by omega, j + 1, w64s (by omega), by omega, rfl, rfl, fun i hi => ?_⟩⟩
   ·have := (hgc.1 hG).2 j (by omega)
    rw [this] at hm
    exact hm rfl
   ·by_cases hij : i = j
    ·subst hij
     omega
    ·exact hall i (by omega)
  ·unfold b22j2
   refine ⟨fun h0 => bad (fun hG => hG.ne (List.length_eq_zero_iff.1 (by omega))) hW.le, fun h0 => ⟨?_, hW.le⟩⟩
   rw [chkP_good hl (hgc.2 ⟨fun e => by rw [e] at hlen; simp at hlen; omega, fun i hi => hall i (by omega)⟩)]
end
section
variable {F : PH}
end
theorem Star.append {P : List Nat → Prop} {u v : List Nat} (hu : Star P u) (hv : P v) : Star P (u ++ v) := by
 induction hu with
 | nil =>
  have := Star.cons hv .nil
  rw [List.append_nil] at this
  exact this
 | cons h _ ih => rw [List.append_assoc]; exact .cons h ih
theorem few_of_nodup {o : List Nat} {n : Nat} (h : o.Nodup) (hb : ∀ e ∈ o, e ≤ n) : o.length ≤ n + 1 := nodup_bound' (n + 1) o h fun e he => by have := hb e he; omega
where nodup_bound' : ∀ (n : Nat) (ns : List Nat), ns.Nodup → (∀ j ∈ ns, j < n) → ns.length ≤ n
 | 0, [], _, _ => Nat.le_refl _
 | 0, j :: ns, _, h => absurd (h j (by simp)) (by omega)
 | n + 1, ns, hn, h => by
  by_cases hm : n ∈ ns
  ·have := nodup_bound' n (ns.erase n) (hn.erase n) fun j hj => by
    have h1 := h j (List.mem_of_mem_erase hj)
    have h2 : j ≠ n := fun e => by rw [e] at hj; exact (hn.not_mem_erase hj)
    omega
   rw [List.length_erase_of_mem hm] at this
   omega
  ·have := nodup_bound' n ns hn fun j hj => by
    have h1 := h j hj
    have h2 : j ≠ n := fun e => hm (e ▸ hj)
    omega
   omega
section
variable {F : PH}
end
section
variable {F : PH}
end
section
variable {F0 F : PH}
end
end Go.Proofs.YtnjcgpihfmklfaaDoor
