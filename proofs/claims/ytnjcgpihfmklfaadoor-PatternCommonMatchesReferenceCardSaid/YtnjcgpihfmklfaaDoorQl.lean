/-
  Check: the whole.
-/
import Derived.Test.YtnjcgpihfmklfaaDoorQi
import Derived.Test.YtnjcgpihfmklfaaDoorGc
namespace Go.Proofs.YtnjcgpihfmklfaaDoor
open Go Go.Proofs.Tryd
set_option maxRecDepth 10000
def ar (k : Int) : Int := if k = 4 then 1 else if k = 2 ∨ k = 3 then 2 else if k = 0 ∨ k = 1 then 0 else -1
def okN (i : Nat) (x : Nd) : Prop := 0 ≤ ar x.k ∧ (x.k = 1 → 0 ≤ x.lo ∧ x.lo ≤ x.hi ∧ x.hi ≤ 255) ∧ (x.k ≠ 1 → x.lo = 0 ∧ x.hi = 0) ∧ (ar x.k < 1 → x.a = 0) ∧ (ar x.k < 2 → x.b = 0) ∧
 (1 ≤ ar x.k → 0 ≤ x.a ∧ x.a < i) ∧ (2 ≤ ar x.k → 0 ≤ x.b ∧ x.b < i)
def us (x : Nd) : List Int := if 2 ≤ ar x.k then [x.b, x.a] else if 1 ≤ ar x.k then [x.a] else []
def usL : List Nd → List Int
 | [] => []
 | x :: l => usL l ++ us x
theorem usL_snoc (l : List Nd) (x : Nd) : usL (l ++ [x]) = us x ++ usL l := by
 induction l with
 | nil => simp [usL]
 | cons y l ih => simp [usL, ih]
structure GoodL (l : List Nd) : Prop where
 ne : l ≠ []
 ok : ∀ i x, l[i]? = some x → okN i x
 nd : (usL l).Nodup
 all : ∀ i : Nat, i + 1 < l.length → (i : Int) ∈ usL l
open Classical in
noncomputable def chkP (l : List Nd) : Int := if 512 < l.length then 2 else if GoodL l then 0 else 40
section
variable {F0 F : PH}
theorem arity_spec (k : Int) : Spec prog 50 #[vi k] F fun r F' => r = vi (ar k) ∧ F' = F := by
 refine c50 ?_
 unfold b50
 have j1 : ∀ t : Bool, t = decide (k = 0 ∨ k = 1) → b50j1 k t (fun r F' => r = vi (ar k) ∧ F' = F) F := fun t ht => by
  unfold b50j1
  refine ⟨fun h => ⟨?_, rfl⟩, fun h => ?_⟩
  ·have := of_decide_eq_true (ht.symm.trans h)
   have e1 : ar k = 0 := by unfold ar; rw [if_neg (by omega), if_neg (by omega), if_pos (by omega)]
   rw [e1]
  ·have h01 := of_decide_eq_false (ht.symm.trans h)
   refine ⟨fun h4 => ⟨?_, rfl⟩, fun h4 => ⟨fun h2 => ⟨fun _ => ⟨?_, rfl⟩, fun h => absurd h2 h⟩, fun h2 => ⟨fun h3 => ⟨?_, rfl⟩, fun h3 => ⟨?_, rfl⟩⟩⟩⟩
   ·have e1 : ar k = 1 := by unfold ar; rw [if_pos (by omega)]
    rw [e1]
   ·have e1 : ar k = 2 := by unfold ar; rw [if_neg (by omega), if_pos (by omega)]
    rw [e1]
   ·have e1 : ar k = 2 := by unfold ar; rw [if_neg (by omega), if_pos (by omega)]
    rw [e1]
   ·have e1 : ar k = -1 := by unfold ar; rw [if_neg (by omega), if_neg (by omega), if_neg (by omega)]
    rw [e1]
 refine ⟨fun h => j1 _ ?_, fun h => j1 _ ?_⟩
 ·rw [Bool.eq_iff_iff]; simp; omega
 ·rw [Bool.eq_iff_iff]; simp; omega
def marks (n : Nat) (W : List Int) : List Value := (List.range n).map fun (i : Nat) => Value.bool (decide ((i : Int) ∈ W))
structure Usd (F0 F : PH) (b u n : Nat) (W : List Int) : Prop where
 zb : F0 b = none
 zu : F0 u = none
 le : F0.le F
 ne : u ≠ b
 qb : F b = some (.cells #[Sl.v ⟨some ⟨u, 0, none⟩, n, n⟩] 69)
 qu : F u = some (.cells (marks n W).toArray 4)
theorem marks_set (n : Nat) (W : List Int) (i : Nat) (hi : i < n) : (marks n W).toArray.setIfInBounds i (.bool true) = (marks n ((i : Int) :: W)).toArray := by
 apply Array.ext'
 rw [Array.toList_setIfInBounds]
 apply List.ext_getElem?
 intro j
 rw [List.getElem?_set]
 simp only [marks, List.length_map, List.length_range, List.getElem?_map]
 by_cases h : i = j
 ·subst h
  rw [if_pos rfl, if_pos hi, List.getElem?_range hi]
  simp
 ·rw [if_neg h]
  by_cases hj : j < n
  ·rw [List.getElem?_range hj]
   simp only [Option.map_some, List.mem_cons]
   congr 2
   rw [Bool.eq_iff_iff]
   simp only [decide_eq_true_eq]
   constructor
   ·exact .inr
   ·rintro (e | e)
    ·omega
    ·exact e
  ·rw [List.getElem?_eq_none (by simp; omega)]
   rfl
theorem marks_get {n : Nat} {W : List Int} {i : Nat} (hi : i < n) : (marks n W).toArray[i]? = some (.bool (decide ((i : Int) ∈ W))) := by
 simp [marks, hi]
theorem use_spec {b u n : Nat} {W : List Int} (h : Usd F0 F b u n W) (i : Int) {at_ : Nat} (ha : at_ ≤ n) :
  Spec prog 49 #[vi i, vi at_, pa b] F fun r F' => ((0 ≤ i ∧ i < at_ ∧ i ∉ W) ∧ r = .bool true ∧ Usd F0 F' b u n (i :: W) ∧ ∀ x, x ≠ u → F' x = F x) ∨ (¬ (0 ≤ i ∧ i < at_ ∧ i ∉ W) ∧ r = .bool false ∧ F' = F) := by
 refine c49 ?_
 unfold b49
 refine ⟨fun h0 => .inr ⟨by omega, rfl, rfl⟩, fun h0 => ⟨fun h1 => .inr ⟨by omega, rfl, rfl⟩, fun h1 => ?_⟩⟩
 obtain ⟨k, rfl⟩ := Int.eq_ofNat_of_zero_le (by omega : 0 ≤ i)
 have hk : k < n := by omega
 have hr : F.cell ((Addr.mk u 0 none).add (Int.toNat (k : Int) * 1)) = some (.bool (decide ((k : Int) ∈ W))) := by
  rw [Int.toNat_natCast, Nat.mul_one, show (Addr.mk u 0 none).add k = ⟨u, k, none⟩ by simp [Addr.add, Nat.zero_add]; omega, cell_eq h.qu]
  exact marks_get hk
 have hc : F.cell ⟨b, 0, none⟩ = some (Sl.v ⟨some ⟨u, 0, none⟩, n, n⟩) := by rw [cell_eq h.qb]; rfl
 refine ⟨_, rfl, _, hc, _, rfl, by omega, by simp only; omega, _, hr, fun hm => .inr ⟨fun hn => hn.2.2 (of_decide_eq_true hm), rfl, rfl⟩, fun hm => ⟨_, hc, _, rfl, by omega, by simp only; omega, ?_⟩⟩
 have hm := of_decide_eq_false hm
 refine st1' (b := u) (o := k) (by rw [Int.toNat_natCast, Nat.mul_one]; simp [Addr.add]; omega) h.qu (by simp [marks]; exact hk) ?_
 refine .inl ⟨⟨by omega, by omega, hm⟩, rfl, ⟨h.zb, h.zu, le_set_new h.le h.zu, h.ne, ?_, ?_⟩, fun x hx => set_ne _ _ hx⟩
 ·rw [set_ne _ _ h.ne.symm]
  exact h.qb
 ·show (F.set u (.cells ((marks n W).toArray.setIfInBounds k (.bool true)) 4)) u = _
  rw [marks_set n W k hk]
  exact set_eq _ _ _
theorem check_j4 {s : Sl} {b u n b6 j : Nat} {W : List Int} {x : Nd} {ok : Bool} {N : Int → PH → Prop} {R : Value → PH → Prop} (h : Usd F0 F b u n W) (q6 : F b6 = some (.cells x.arr 50)) (hj : j ≤ n) (hu : u ≠ b6)
  (bad : ¬ (ok = true ∧ (ar x.k < 1 → x.a = 0) ∧ (ar x.k < 2 → x.b = 0) ∧ (1 ≤ ar x.k → 0 ≤ x.a ∧ x.a < j ∧ x.a ∉ W) ∧ (2 ≤ ar x.k → 0 ≤ x.b ∧ x.b < j ∧ x.b ∉ x.a :: W)) → ∀ F', F0.le F' → R (vi 40) F')
  (good : (ok = true ∧ (ar x.k < 1 → x.a = 0) ∧ (ar x.k < 2 → x.b = 0) ∧ (1 ≤ ar x.k → 0 ≤ x.a ∧ x.a < j ∧ x.a ∉ W) ∧ (2 ≤ ar x.k → 0 ≤ x.b ∧ x.b < j ∧ x.b ∉ x.a :: W)) → ∀ F', Usd F0 F' b u n (us x ++ W) → N (IntKind.i64.wrap ((j : Int) + 1)) F') :
  b21j4 N s b j b6 (ar x.k) ok R F := by
 have cA : ∀ {F' : PH}, F' b6 = some (.cells x.arr 50) → F'.cell (Addr.mk b6 3 none) = some (vi x.a) := fun h => by rw [cell_eq h]; rfl
 have cB : ∀ {F' : PH}, F' b6 = some (.cells x.arr 50) → F'.cell (Addr.mk b6 4 none) = some (vi x.b) := fun h => by rw [cell_eq h]; rfl
 unfold b21j4
 refine ⟨fun hk => bad (fun hg => by rw [hg.1] at hk; cases hk) _ h.le, fun hk => ?_⟩
 have hok : ok = true := by simpa using hk
 refine ⟨fun h1 => ⟨_, cA q6, fun ha => bad (fun hg => ha (hg.2.1 h1)) _ h.le, fun ha => ⟨fun h2 => ⟨_, cB q6, fun hb => bad (fun hg => hb (hg.2.2.1 h2)) _ h.le, fun hb => ⟨fun h3 => absurd h3 (by omega), fun h3 => ⟨fun h4 => absurd h4 (by omega), fun h4 => ?_⟩⟩⟩, fun h2 => absurd h2 (by omega)⟩⟩,
  fun h1 => ⟨fun h2 => ⟨_, cB q6, fun hb => bad (fun hg => hb (hg.2.2.1 h2)) _ h.le, fun hb => ⟨fun h3 => ⟨_, cA q6, ?_⟩, fun h3 => absurd h3 (by omega)⟩⟩, fun h2 => ⟨fun h3 => ⟨_, cA q6, ?_⟩, fun h3 => absurd h3 (by omega)⟩⟩⟩
 ·unfold b21j3
  refine good ⟨hok, fun _ => by omega, fun _ => by omega, fun h => by omega, fun h => by omega⟩ _ ?_
  have : us x = [] := by unfold us; rw [if_neg h4, if_neg h3]
  rw [this]
  exact h
 ·refine (use_spec h x.a hj).mono ?_
  rintro _ F2 (⟨hg, rfl, h2', hk2⟩ | ⟨hg, rfl, rfl⟩)
  ·refine ⟨_, rfl, fun h => by simp at h, fun _ => ⟨fun h4 => absurd h4 (by omega), fun h4 => ?_⟩⟩
   unfold b21j3
   refine good ⟨hok, fun _ => by omega, fun _ => by omega, fun _ => hg, fun h => by omega⟩ _ ?_
   have : us x = [x.a] := by unfold us; rw [if_neg h4, if_pos h3]
   rw [this]
   exact h2'
  ·exact ⟨_, rfl, fun _ => bad (fun hg2 => hg (hg2.2.2.2.1 h3)) _ h.le, fun h => by simp at h⟩
 ·refine (use_spec h x.a hj).mono ?_
  rintro _ F2 (⟨hg, rfl, h2', hk2⟩ | ⟨hg, rfl, rfl⟩)
  ·have q6' : F2 b6 = some (.cells x.arr 50) := (hk2 _ hu.symm).trans q6
   refine ⟨_, rfl, fun h => by simp at h, fun _ => ⟨fun h4 => ⟨_, cB q6', ?_⟩, fun h4 => absurd h4 (by omega)⟩⟩
   refine (use_spec h2' x.b hj).mono ?_
   rintro _ F3 (⟨hg3, rfl, h3', hk3⟩ | ⟨hg3, rfl, rfl⟩)
   ·refine ⟨_, rfl, fun h => by simp at h, fun _ => ?_⟩
    unfold b21j3
    refine good ⟨hok, fun _ => by omega, fun _ => by omega, fun _ => hg, fun _ => hg3⟩ _ ?_
    have : us x = [x.b, x.a] := by unfold us; rw [if_pos h4]
    rw [this]
    exact h3'
   ·exact ⟨_, rfl, fun _ => bad (fun hg2 => hg3 (hg2.2.2.2.2 h4)) _ h2'.le, fun h => by simp at h⟩
  ·exact ⟨_, rfl, fun _ => bad (fun hg2 => hg (hg2.2.2.2.1 h3)) _ h.le, fun h => by simp at h⟩
end
theorem sz4' : tsz prog 4 = some (1, 1) := by kernel_rfl
theorem zr4' : tzero prog 4 = some (.bool false) := by kernel_rfl
structure GoodTo (l : List Nd) (j : Nat) : Prop where
 ok : ∀ i x, i < j → l[i]? = some x → okN i x
 nd : (usL (l.take j)).Nodup
theorem GoodTo.zero (l : List Nd) : GoodTo l 0 := ⟨fun i x h => by omega, by simp [usL]⟩
theorem okN_rest {j : Nat} {x : Nd} {W : List Int} : (okN j x ∧ (us x ++ W).Nodup) ↔ W.Nodup ∧ (0 ≤ ar x.k ∧ (x.k = 1 → 0 ≤ x.lo ∧ x.lo ≤ x.hi ∧ x.hi ≤ 255) ∧ (x.k ≠ 1 → x.lo = 0 ∧ x.hi = 0)) ∧
  (ar x.k < 1 → x.a = 0) ∧ (ar x.k < 2 → x.b = 0) ∧ (1 ≤ ar x.k → 0 ≤ x.a ∧ x.a < j ∧ x.a ∉ W) ∧ (2 ≤ ar x.k → 0 ≤ x.b ∧ x.b < j ∧ x.b ∉ x.a :: W) := by
 unfold okN us
 by_cases h2 : 2 ≤ ar x.k
 ·rw [if_pos h2]
  simp only [List.cons_append, List.nil_append, List.nodup_cons, List.mem_cons, not_or]
  constructor
  ·rintro ⟨⟨a1, a2, a3, a4, a5, a6, a7⟩, ⟨n1, n2⟩, n3, n4⟩
   exact ⟨n4, ⟨a1, a2, a3⟩, a4, a5, fun h => ⟨(a6 h).1, (a6 h).2, n3⟩, fun h => ⟨(a7 h).1, (a7 h).2, n1, n2⟩⟩
  ·rintro ⟨n4, ⟨a1, a2, a3⟩, a4, a5, a6, a7⟩
   exact ⟨⟨a1, a2, a3, a4, a5, fun h => ⟨(a6 h).1, (a6 h).2.1⟩, fun h => ⟨(a7 h).1, (a7 h).2.1⟩⟩, ⟨(a7 h2).2.2.1, (a7 h2).2.2.2⟩, (a6 (by omega)).2.2, n4⟩
 ·rw [if_neg h2]
  by_cases h1 : 1 ≤ ar x.k
  ·rw [if_pos h1]
   simp only [List.cons_append, List.nil_append, List.nodup_cons]
   constructor
   ·rintro ⟨⟨a1, a2, a3, a4, a5, a6, a7⟩, n3, n4⟩
    exact ⟨n4, ⟨a1, a2, a3⟩, a4, a5, fun h => ⟨(a6 h).1, (a6 h).2, n3⟩, fun h => absurd h h2⟩
   ·rintro ⟨n4, ⟨a1, a2, a3⟩, a4, a5, a6, a7⟩
    exact ⟨⟨a1, a2, a3, a4, a5, fun h => ⟨(a6 h).1, (a6 h).2.1⟩, fun h => absurd h h2⟩, (a6 h1).2.2, n4⟩
  ·rw [if_neg h1]
   simp only [List.nil_append]
   constructor
   ·rintro ⟨⟨a1, a2, a3, a4, a5, a6, a7⟩, n4⟩
    exact ⟨n4, ⟨a1, a2, a3⟩, a4, a5, fun h => absurd h h1, fun h => absurd h h2⟩
   ·rintro ⟨n4, ⟨a1, a2, a3⟩, a4, a5, a6, a7⟩
    exact ⟨⟨a1, a2, a3, a4, a5, fun h => absurd h h1, fun h => absurd h h2⟩, n4⟩
theorem GoodTo.succ {l : List Nd} {j : Nat} {x : Nd} (hx : l[j]? = some x) : GoodTo l (j + 1) ↔ GoodTo l j ∧ okN j x ∧ (us x ++ usL (l.take j)).Nodup := by
 have e : l.take (j + 1) = l.take j ++ [x] := by rw [List.take_add_one, hx]; rfl
 constructor
 ·rintro ⟨h1, h2⟩
  rw [e, usL_snoc] at h2
  exact ⟨⟨fun i y hi hy => h1 i y (by omega) hy, (List.nodup_append.1 h2).2.1⟩, h1 j x (by omega) hx, h2⟩
 ·rintro ⟨⟨h1, h2⟩, h3, h4⟩
  refine ⟨fun i y hi hy => ?_, by rw [e, usL_snoc]; exact h4⟩
  by_cases hij : i = j
  ·subst hij
   rw [hx] at hy
   cases hy
   exact h3
  ·exact h1 i y (by omega) hy
theorem GoodL_iff (l : List Nd) : GoodL l ↔ GoodTo l l.length ∧ (∀ i : Nat, i + 1 < l.length → (i : Int) ∈ usL l) ∧ l ≠ [] := by
 constructor
 ·rintro ⟨h1, h2, h3, h4⟩
  exact ⟨⟨fun i x _ hx => h2 i x hx, by rw [List.take_length]; exact h3⟩, h4, h1⟩
 ·rintro ⟨⟨h2, h3⟩, h4, h1⟩
  rw [List.take_length] at h3
  exact ⟨h1, fun i x hx => h2 i x (by have := (List.getElem?_eq_some_iff.1 hx).1; omega) hx, h3, h4⟩
theorem chkP_bad {l : List Nd} (hl : l.length ≤ 512) (h : ¬ GoodL l) : chkP l = 40 := by unfold chkP; rw [if_neg (by omega), if_neg h]
theorem chkP_good {l : List Nd} (hl : l.length ≤ 512) (h : GoodL l) : chkP l = 0 := by unfold chkP; rw [if_neg (by omega), if_pos h]
section
variable {F : PH}
theorem check_spec {s : Sl} {l : List Nd} (hs : RdS F s 5 (nflat l)) : Spec prog 21 #[s.v] F fun r F' => r = vi (chkP l) ∧ F.le F' := by
 have hlen := hs.nlen
 refine c21 ?_
 unfold b21
 refine ⟨fun h => ⟨?_, le_refl' F⟩, fun h => ?_⟩
 ·have e : chkP l = 2 := by unfold chkP; rw [if_pos (by omega)]
  rw [e]
 have hl : l.length ≤ 512 := by omega
 refine runs_makeSlice underlying69 sz4' zr4' rfl (by omega) (Int.le_refl _) (by omega) (by omega) ?_
 intro u hu
 rw [zc1 _ rfl, Int.toNat_natCast, hlen]
 have em : (List.replicate l.length (Value.bool false)).toArray = (marks l.length []).toArray := by
  congr 1
  apply List.ext_getElem?
  intro j
  by_cases hj : j < l.length
  ·simp [marks, hj]
  ·rw [List.getElem?_eq_none (by simp; omega), List.getElem?_eq_none (by simp [marks]; omega)]
 rw [em]
 refine ⟨_, rfl, fun b3 hb3 => ?_⟩
 refine atI ?_
 have hne : u ≠ b3 := fun e => by rw [e, set_eq] at hb3; cases hb3
 have hb3F : F b3 = none := by rwa [set_ne _ _ hne.symm] at hb3
 refine st1 (set_eq _ _ _) (by simp) ?_
 rw [set_twice]
 have hU : Usd F ((F.set u (.cells (marks l.length []).toArray 4)).set b3 (.cells #[Sl.v ⟨some ⟨u, 0, none⟩, l.length, l.length⟩] 69)) b3 u l.length [] :=
  ⟨hb3F, hu, le_set_new (le_set_fresh _ hu) hb3F, hne, set_eq _ _ _, by rw [set_ne _ _ hne]; exact set_eq _ _ _⟩
 show ∃ (I2 : Nat → Int → PH → Prop) (m2 : Nat), _
 have e0 : (#[Value.slice Option.none 0 0] : Array Value).setIfInBounds 0 (Sl.v ⟨some ⟨u, 0, none⟩, l.length, l.length⟩) = #[Sl.v ⟨some ⟨u, 0, none⟩, l.length, l.length⟩] := rfl
 rw [e0]
 generalize (F.set u (.cells (marks l.length []).toArray 4)).set b3 (.cells #[Sl.v ⟨some ⟨u, 0, none⟩, l.length, l.length⟩] 69) = F1 at *
 have bad : ∀ {F' : PH}, ¬ GoodL l → F.le F' → vi 40 = vi (chkP l) ∧ F.le F' := fun h hl' => ⟨by rw [chkP_bad hl h], hl'⟩
 refine ⟨fun m i F' => ∃ j : Nat, i = j ∧ j ≤ l.length ∧ m = l.length - j ∧ GoodTo l j ∧ Usd F F' b3 u l.length (usL (l.take j)), l.length, ⟨0, rfl, by omega, rfl, GoodTo.zero l, by simpa [usL] using hU⟩, ?_⟩
 rintro _ _ F2 ⟨j, rfl, hj, rfl, hg, hW⟩
 unfold b21L2
 refine ⟨fun hlt => ?_, fun hge => ?_⟩
 ·have hjl : j < l.length := by omega
  have hx : l[j]? = some l[j] := List.getElem?_eq_getElem hjl
  generalize l[j] = x at hx
  obtain ⟨a, ha, hrow⟩ := rdn (hs.le hW.le) hx
  refine ⟨a, ha, by omega, by omega, x.arr, rfl, hrow, fun b6 hb6 => ?_⟩
  refine atI ?_
  refine stW (set_eq _ _ _) rfl rfl (st_narr x) ?_
  rw [set_twice]
  have hub : u ≠ b6 := ne_of_fresh hb6 hW.qu
  have hW6 : Usd F (F2.set b6 (.cells x.arr 50)) b3 u l.length (usL (l.take j)) := ⟨hW.zb, hW.zu, le_set_new hW.le (le_none hW.le hb6), hW.ne, by rw [set_ne _ _ (ne_of_fresh hb6 hW.qb)]; exact hW.qb, by rw [set_ne _ _ hub]; exact hW.qu⟩
  have q6 := set_eq F2 b6 (.cells x.arr 50)
  generalize F2.set b6 (.cells x.arr 50) = F3 at *
  have j4 : ∀ ok : Bool, (ok = true ↔ (0 ≤ ar x.k ∧ (x.k = 1 → 0 ≤ x.lo ∧ x.lo ≤ x.hi ∧ x.hi ≤ 255) ∧ (x.k ≠ 1 → x.lo = 0 ∧ x.hi = 0))) →
    b21j4 (fun y2_0 F => ∃ m', m' < l.length - j ∧ ∃ j : Nat, y2_0 = j ∧ j ≤ l.length ∧ m' = l.length - j ∧ GoodTo l j ∧ Usd _ F b3 u l.length (usL (l.take j))) s b3 j b6 (ar x.k) ok (fun r F' => r = vi (chkP l) ∧ PH.le _ F') F3 := fun ok hok => by
   refine check_j4 hW6 q6 (by omega) hub (fun hn F' hl' => bad (fun hG => hn ?_) hl') fun hy F' hU' => ?_
   ·obtain ⟨hgt, _, _⟩ := (GoodL_iff l).1 hG
    have h1 : GoodTo l (j + 1) := ⟨fun i y hi hy => hgt.ok i y (by omega) hy, by
     have := hgt.nd
     rw [List.take_length] at this
     have e : usL l = usL (l.drop (j + 1)) ++ usL (l.take (j + 1)) ∨ True := .inr trivial
     have hsub : ∀ (p q : List Nd), usL (p ++ q) = usL q ++ usL p := by
      intro p q
      induction p with
      | nil => simp [usL]
      | cons y p ih => simp [usL, ih]
     rw [← List.take_append_drop (j + 1) l, hsub] at this
     exact (List.nodup_append.1 this).2.1⟩
    obtain ⟨_, h3⟩ := (GoodTo.succ hx).1 h1
    obtain ⟨h4, h5, h6⟩ := okN_rest.1 h3
    exact ⟨hok.2 h5, h6⟩
   ·refine ⟨l.length - (j + 1), by omega, j + 1, w64s (by omega), hjl, rfl, ?_, ?_⟩
    ·exact (GoodTo.succ hx).2 ⟨hg, okN_rest.2 ⟨hg.nd, hok.1 hy.1, hy.2⟩⟩
    ·rw [List.take_add_one, hx]
     show Usd F F' b3 u l.length (usL (l.take j ++ [x]))
     rw [usL_snoc]
     exact hU'
  have c0 : F3.cell (Addr.mk b6 0 none) = some (vi x.k) := by rw [cell_eq q6]; rfl
  have c1 : F3.cell (Addr.mk b6 1 none) = some (vi x.lo) := by rw [cell_eq q6]; rfl
  have c2 : F3.cell (Addr.mk b6 2 none) = some (vi x.hi) := by rw [cell_eq q6]; rfl
  have a1 : x.k = 1 → ar x.k = 0 := fun h => by unfold ar; rw [if_neg (by omega), if_neg (by omega), if_pos (by omega)]
  refine ⟨_, c0, ?_⟩
  refine (arity_spec _).mono ?_
  rintro _ F3' ⟨rfl, e⟩
  obtain rfl := e.symm
  refine ⟨_, rfl, _, c0, fun h1 => ⟨_, c1, fun h2 => ⟨_, c1, _, c2, fun h3 => ⟨_, c2, j4 _ ?_⟩, fun h3 => j4 _ ?_⟩, fun h2 => j4 _ ?_⟩, fun h1 => ⟨_, c1, fun h2 => j4 _ ?_, fun h2 => ⟨_, c2, fun h3 => j4 _ ?_, fun h3 => j4 _ ?_⟩⟩⟩
  ·have := a1 h1
   rw [decide_eq_true_eq]
   exact ⟨fun h => ⟨by omega, fun _ => ⟨h2, h3, h⟩, fun h => absurd h1 h⟩, fun h => (h.2.1 h1).2.2⟩
  ·exact ⟨fun h => (by cases h), fun h => absurd (h.2.1 h1).2.1 h3⟩
  ·exact ⟨fun h => (by cases h), fun h => absurd (h.2.1 h1).1 h2⟩
  ·exact ⟨fun h => (by cases h), fun h => absurd (h.2.2 h1).1 h2⟩
  ·exact ⟨fun h => (by cases h), fun h => absurd (h.2.2 h1).2 h3⟩
  ·rw [decide_eq_true_eq]
   exact ⟨fun h => ⟨h, fun h => absurd h h1, fun _ => ⟨by omega, by omega⟩⟩, fun h => h.1⟩
 ·obtain rfl : j = l.length := by omega
  rw [List.take_length] at hW
  unfold b21j1
  have ew : IntKind.i64.wrap ((s.len : Int) - 1) = (l.length : Int) - 1 := by rw [hlen, w64_eq (by omega) (by omega)]
  refine ⟨fun m i F' => ∃ j : Nat, i = j ∧ j ≤ l.length ∧ m = l.length - j ∧ F' = F2 ∧ ∀ i : Nat, i < j → (i : Int) ∈ usL l, l.length, ⟨0, rfl, by omega, rfl, rfl, fun i hi => by omega⟩, ?_⟩
  rintro _ _ F3 ⟨j, rfl, hj', rfl, e3, hall⟩
  obtain rfl := e3.symm
  unfold b21L1
  rw [ew]
  refine ⟨fun hlt => ?_, fun hge => ?_⟩
  ·have hjl : j < l.length := by omega
   have hr : F2.cell ((Addr.mk u 0 none).add (Int.toNat (j : Int) * 1)) = some (.bool (decide ((j : Int) ∈ usL l))) := by
    rw [Int.toNat_natCast, Nat.mul_one, show (Addr.mk u 0 none).add j = ⟨u, j, none⟩ by simp [Addr.add, Nat.zero_add]; omega, cell_eq hW.qu]
    exact marks_get hjl
   refine ⟨_, by rw [cell_eq hW.qb]; rfl, _, rfl, by omega, by simp only; omega, _, hr, fun hm => bad (fun hG => ?_) hW.le, fun hm => ⟨l.length - (j + 1), by omega, j + 1, w64s (by omega), hjl, rfl, rfl, fun i hi => ?_⟩⟩
   ·have := hG.all j (by omega)
    simp [this] at hm
   ·by_cases hij : i = j
    ·subst hij
     simpa using hm
    ·exact hall i (by omega)
  ·unfold b21j2
   refine ⟨fun h0 => bad (fun hG => hG.ne (List.length_eq_zero_iff.1 (by omega))) hW.le, fun h0 => ⟨?_, hW.le⟩⟩
   rw [chkP_good hl ((GoodL_iff l).2 ⟨hg, fun i hi => hall i (by omega), fun e => by rw [e] at hlen; simp at hlen; omega⟩)]
end
end Go.Proofs.YtnjcgpihfmklfaaDoor
