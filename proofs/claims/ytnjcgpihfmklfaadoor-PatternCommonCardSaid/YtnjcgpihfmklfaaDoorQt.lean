/-
  The making of a machine.
-/
import Derived.Test.YtnjcgpihfmklfaaDoorQs
namespace Go.Proofs.YtnjcgpihfmklfaaDoor
open Go Go.Proofs.Tryd
set_option maxRecDepth 10000

/-- The cells of a machine. -/
def mcells (s : Sl) (P Q : Nat → Bool) (bf n : Nat) (e : Bool) : Array Value :=
  #[s.v, u64v (wd P 0), u64v (wd P 1), u64v (wd P 2), u64v (wd P 3), u64v (wd P 4), u64v (wd P 5), u64v (wd P 6), u64v (wd P 7),
    u64v (wd Q 0), u64v (wd Q 1), u64v (wd Q 2), u64v (wd Q 3), u64v (wd Q 4), u64v (wd Q 5), u64v (wd Q 6), u64v (wd Q 7), Sl.v ⟨some ⟨bf, 0, none⟩, n, n⟩, .bool e]
theorem wr19a (a0 a1 a2 a3 a4 a5 a6 a7 a8 a9 a10 a11 a12 a13 a14 a15 a16 a17 a18 v0 v1 v2 v3 v4 v5 v6 v7 : Value) : wr (#[a0, a1, a2, a3, a4, a5, a6, a7, a8, a9, a10, a11, a12, a13, a14, a15, a16, a17, a18] : Array Value) 1 [v0, v1, v2, v3, v4, v5, v6, v7] = #[a0, v0, v1, v2, v3, v4, v5, v6, v7, a9, a10, a11, a12, a13, a14, a15, a16, a17, a18] :=
  (wr_list [v0, v1, v2, v3, v4, v5, v6, v7] [a0, a1, a2, a3, a4, a5, a6, a7, a8, a9, a10, a11, a12, a13, a14, a15, a16, a17, a18] 1 (by show 9 ≤ 19; omega)).trans rfl
theorem wr19b (a0 a1 a2 a3 a4 a5 a6 a7 a8 a9 a10 a11 a12 a13 a14 a15 a16 a17 a18 v0 v1 v2 v3 v4 v5 v6 v7 : Value) : wr (#[a0, a1, a2, a3, a4, a5, a6, a7, a8, a9, a10, a11, a12, a13, a14, a15, a16, a17, a18] : Array Value) 9 [v0, v1, v2, v3, v4, v5, v6, v7] = #[a0, a1, a2, a3, a4, a5, a6, a7, a8, v0, v1, v2, v3, v4, v5, v6, v7, a17, a18] :=
  (wr_list [v0, v1, v2, v3, v4, v5, v6, v7] [a0, a1, a2, a3, a4, a5, a6, a7, a8, a9, a10, a11, a12, a13, a14, a15, a16, a17, a18] 9 (by show 17 ≤ 19; omega)).trans rfl
theorem mc_w1 (s : Sl) (P P' Q : Nat → Bool) (bf n : Nat) (e : Bool) : wr (mcells s P' Q bf n e) 1 (plA P).toList = mcells s P Q bf n e := wr19a _ _ _ _ _ _ _ _ _ _ _ _ _ _ _ _ _ _ _ _ _ _ _ _ _ _ _
theorem mc_w9 (s : Sl) (P Q' Q : Nat → Bool) (bf n : Nat) (e : Bool) : wr (mcells s P Q' bf n e) 9 (plA Q).toList = mcells s P Q bf n e := wr19b _ _ _ _ _ _ _ _ _ _ _ _ _ _ _ _ _ _ _ _ _ _ _ _ _ _ _
theorem mc_18 (s : Sl) (P Q : Nat → Bool) (bf n : Nat) (e e' : Bool) : (mcells s P Q bf n e).setIfInBounds 18 (.bool e') = mcells s P Q bf n e' := rfl
def noR : Nat → Nat → Bool := fun _ _ => false
theorem flat_none : ∀ n : Nat, flatR n noR = List.replicate (n * 8) (.int .u64 0)
  | 0 => rfl
  | n + 1 => by
    have := flat_none n
    unfold flatR at this ⊢
    rw [List.range_succ, List.flatMap_append, this, List.flatMap_cons, List.flatMap_nil, List.append_nil]
    have e : (plA (noR n)).toList = List.replicate 8 (.int .u64 0) := by
      show (plA noP).toList = _
      rw [plA_none]
      rfl
    rw [e, List.replicate_append_replicate]
    congr 1
    omega
theorem sz76' : tsz prog 76 = some (8, 64) := by kernel_rfl
theorem zr76' : tzero prog 76 = some (.agg #[.int .u64 0, .int .u64 0, .int .u64 0, .int .u64 0, .int .u64 0, .int .u64 0, .int .u64 0, .int .u64 0]) := by kernel_rfl
theorem zc8 (n : Nat) : Builtin.zeroCells (Value.agg #[.int .u64 0, .int .u64 0, .int .u64 0, .int .u64 0, .int .u64 0, .int .u64 0, .int .u64 0, .int .u64 0]).cells n = (flatR n noR).toArray := by
  rw [flat_none]
  have hz : (Value.agg #[.int .u64 0, .int .u64 0, .int .u64 0, .int .u64 0, .int .u64 0, .int .u64 0, .int .u64 0, .int .u64 0]).cells = (List.replicate 8 (Value.int .u64 0)).toArray := rfl
  rw [hz]
  apply Array.ext
  · simp [Builtin.zeroCells]
  · intro i h1 h2
    simp only [Builtin.zeroCells, Array.getElem_map, Array.getElem_range, List.getElem_toArray, List.getElem_replicate]
    have : i % (List.replicate 8 (Value.int .u64 0)).toArray.size < 8 := Nat.mod_lt _ (by decide)
    rw [getElem!_pos _ _ (by simpa using this)]
    simp only [List.size_toArray, List.length_replicate, List.getElem_toArray, List.getElem_replicate]

/-- The machine of a tree. -/
structure Mch (F : PH) (bm : Nat) (l : List Nd) (t : Lt) : Prop where
  ex : ∃ (s : Sl) (bf : Nat), F bm = some (.cells (mcells s (fB t) (lB t) bf l.length t.nul) 79) ∧ RdS F s 5 (nflat l) ∧ F bf = some (.cells (flatR l.length (foB t)).toArray 76)
theorem Mch.le {F G : PH} {bm : Nat} {l : List Nd} {t : Lt} (h : Mch F bm l t) (hl : F.le G) : Mch G bm l t := by
  obtain ⟨s, bf, a, b, c⟩ := h.ex
  exact ⟨s, bf, hl _ _ a, b.le hl, hl _ _ c⟩
theorem Tab.zero {F : PH} (h : Tab F) : ∃ o, F 0 = some o := by
  have := h 0 0 rfl
  unfold PH.cell at this
  cases hz : F 0 with
  | none => rw [hz] at this; cases this
  | some o => exact ⟨o, rfl⟩
theorem RdS.block {F : PH} {s : Sl} {size : Nat} {vs : List Value} (h : RdS F s size vs) (hv : 0 < vs.length) {a : Addr} (ha : s.base = some a) : ∃ o, F a.block = some o := by
  have hp : 0 < s.len := by
    rcases Nat.eq_zero_or_pos s.len with h0 | h0
    · have := h.len; rw [h0, Nat.zero_mul] at this; omega
    · exact h0
  obtain ⟨b, o, h1, h2⟩ := h.cells hp
  rw [ha] at h1
  cases h1
  have hc := h2 0 hv
  unfold PH.cell at hc
  cases hz : F b with
  | none => simp only [hz] at hc; cases hc
  | some ob => exact ⟨ob, rfl⟩
theorem Lo.new' {G F : PH} {xs : List (Nat × Array Value × TypeId)} (h : Lo G F xs) (c : Array Value) (e : TypeId) {b : Nat} (hb : F b = none) : Lo G (F.set b (.cells c e)) ((b, c, e) :: xs) :=
  atE (h.new c e (K := fun b F' => Lo G F' ((b, c, e) :: xs)) (fun _ _ h => h) b hb)
section
variable {F0 F : PH} {l : List Nd}
set_option maxHeartbeats 1000000 in
theorem compile_j1 {s : Sl} {b1 b3 bm bf : Nat} (hT : Tab F0) (hG : GoodL l) (hl : l.length ≤ 512) (hs : RdS F0 s 5 (nflat l)) (le : F0.le F) (q1 : F b1 = some (.cells #[s.v] 25)) (q3 : F b3 = some (.cells #[pa bm] 61))
    (qm : F bm = some (.cells (mcells s noP noP bf l.length false) 79)) (qf : F bf = some (.cells (flatR l.length noR).toArray 76)) (zm : F0 bm = none) (zf : F0 bf = none) {R : Value → PH → Prop}
    (k : ∀ F', Mch F' bm l (treeL l) → F0.le F' → R (pa bm) F') : b42j1 b1 (some ⟨b3, 0, none⟩) R F := by
  obtain ⟨ns, ht⟩ := treeL_spec hG
  have hlen := hs.nlen
  have hpos := List.length_pos_iff.2 hG.ne
  have h0 : bf ≠ 0 := fun e => by
    obtain ⟨o, ho⟩ := hT.zero
    rw [e, ho] at zf
    cases zf
  unfold b42j1
  intro b4 hb4
  refine atI ?_
  have l4 := le_set_fresh (.cells #[.nilFunc] 104) hb4
  have q4 := set_eq F b4 (.cells #[.nilFunc] 104)
  have le4 := le_trans' le l4
  replace q1 := l4 _ _ q1
  replace q3 := l4 _ _ q3
  replace qm := l4 _ _ qm
  replace qf := l4 _ _ qf
  have z4 : F0 b4 = none := le_none le hb4
  clear l4 hb4 le
  generalize F.set b4 (.cells #[.nilFunc] 104) = F1 at *
  intro b5 hb5
  refine atI ?_
  have l5 := le_set_fresh (.cells #[.nilFunc] 108) hb5
  have q5 := set_eq F1 b5 (.cells #[.nilFunc] 108)
  have le5 := le_trans' le4 l5
  replace q1 := l5 _ _ q1
  replace q3 := l5 _ _ q3
  replace qm := l5 _ _ qm
  replace qf := l5 _ _ qf
  have n45 : b4 ≠ b5 := ne_of_fresh hb5 q4
  replace q4 := l5 _ _ q4
  have z5 : F0 b5 = none := le_none le4 hb5
  clear l5 hb5 le4
  generalize F1.set b5 (.cells #[.nilFunc] 108) = F2 at *
  have ne : ∀ {x y : Nat} {c d : Array Value} {e e' : TypeId}, e ≠ e' → F2 x = some (.cells c e) → F2 y = some (.cells d e') → x ≠ y := fun he hx hy e => by
    rw [e, hy] at hx
    simp at hx
    exact he hx.2.symm
  refine st1 (o := 0) q5 (by simp) ?_
  show ∃ c e, _
  have e5 : (#[Value.nilFunc] : Array Value).setIfInBounds 0 (.func (.func 65) #[] #[pa b3]) = #[.func (.func 65) #[] #[pa b3]] := rfl
  rw [e5]
  have le6 := le_set_new (o := .cells #[.func (.func 65) #[] #[pa b3]] 108) le5 z5
  have q1' : (F2.set b5 (.cells #[.func (.func 65) #[] #[pa b3]] 108)) b1 = _ := (set_ne _ _ (ne (by decide) q1 q5)).trans q1
  have q3' : (F2.set b5 (.cells #[.func (.func 65) #[] #[pa b3]] 108)) b3 = _ := (set_ne _ _ (ne (by decide) q3 q5)).trans q3
  have qm' : (F2.set b5 (.cells #[.func (.func 65) #[] #[pa b3]] 108)) bm = _ := (set_ne _ _ (ne (by decide) qm q5)).trans qm
  have qf' : (F2.set b5 (.cells #[.func (.func 65) #[] #[pa b3]] 108)) bf = _ := (set_ne _ _ (ne (by decide) qf q5)).trans qf
  have q4' : (F2.set b5 (.cells #[.func (.func 65) #[] #[pa b3]] 108)) b4 = _ := (set_ne _ _ n45).trans q4
  have q5' := set_eq F2 b5 (.cells #[.func (.func 65) #[] #[pa b3]] 108)
  clear q1 q3 qm qf q4 q5 le5 ne
  generalize F2.set b5 (.cells #[.func (.func 65) #[] #[pa b3]] 108) = F3 at *
  have ne : ∀ {x y : Nat} {c d : Array Value} {e e' : TypeId}, e ≠ e' → F3 x = some (.cells c e) → F3 y = some (.cells d e') → x ≠ y := fun he hx hy e => by
    rw [e, hy] at hx
    simp at hx
    exact he hx.2.symm
  refine st1 (o := 0) q4' (by simp) ?_
  have e4 : (#[Value.nilFunc] : Array Value).setIfInBounds 0 (.func (.func 69) #[] #[pa b1, pa b4, pa b5]) = #[.func (.func 69) #[] #[pa b1, pa b4, pa b5]] := rfl
  rw [e4]
  have le7 := le_set_new (o := .cells #[.func (.func 69) #[] #[pa b1, pa b4, pa b5]] 104) le6 z4
  have q1 : (F3.set b4 (.cells #[.func (.func 69) #[] #[pa b1, pa b4, pa b5]] 104)) b1 = _ := (set_ne _ _ (ne (by decide) q1' q4')).trans q1'
  have q3 : (F3.set b4 (.cells #[.func (.func 69) #[] #[pa b1, pa b4, pa b5]] 104)) b3 = _ := (set_ne _ _ (ne (by decide) q3' q4')).trans q3'
  have qm : (F3.set b4 (.cells #[.func (.func 69) #[] #[pa b1, pa b4, pa b5]] 104)) bm = _ := (set_ne _ _ (ne (by decide) qm' q4')).trans qm'
  have qf : (F3.set b4 (.cells #[.func (.func 69) #[] #[pa b1, pa b4, pa b5]] 104)) bf = _ := (set_ne _ _ (ne (by decide) qf' q4')).trans qf'
  have q5 : (F3.set b4 (.cells #[.func (.func 69) #[] #[pa b1, pa b4, pa b5]] 104)) b5 = _ := (set_ne _ _ n45.symm).trans q5'
  have q4 := set_eq F3 b4 (.cells #[.func (.func 69) #[] #[pa b1, pa b4, pa b5]] 104)
  clear q1' q3' qm' qf' q4' q5' le6 ne
  generalize F3.set b4 (.cells #[.func (.func 69) #[] #[pa b1, pa b4, pa b5]] 104) = F4 at *
  have hs4 := hs.le le7
  have hC : Cmp F4 b1 b3 b4 b5 bm bf l noR := by
    refine ⟨⟨hT.le le7, q3, ⟨_, qm, rfl⟩, qf⟩, ⟨s, q1, hs4, fun a ha e => ?_⟩, q4, q5⟩
    obtain ⟨o, ho⟩ := hs.block (by rw [nflat_length]; omega) ha
    rw [e, zf] at ho
    cases ho
  have c3 : F4.cell (Addr.mk b3 0 none) = some (pa bm) := by rw [cell_eq q3]; rfl
  refine ⟨_, rfl, _, c3, _, c3, _, c3, _, by rw [cell_eq q4]; rfl, s, by rw [cell_eq q1]; rfl, 69, #[], _, rfl, cb69', ?_⟩
  have ew : IntKind.i64.wrap ((s.len : Int) - 1) = ((l.length - 1 : Nat) : Int) := by rw [hlen, w64_eq (by omega) (by omega)]; omega
  rw [ew]
  refine (walk_spec hl h0 ht hC).mono ?_
  rintro _ F5 ⟨rfl, hC5, hK⟩
  have hne : ∀ {x : Nat} {c : Array Value} {e : TypeId}, e ≠ 76 → F4 x = some (.cells c e) → x ≠ bf := fun he hx e => by
    rw [e, qf] at hx
    simp at hx
    exact he hx.2.symm
  have q1 := hK _ _ q1 (hne (by decide) q1)
  have q3 := hK _ _ q3 (hne (by decide) q3)
  have qm := hK _ _ qm (hne (by decide) qm)
  have le8 : F0.le F5 := fun y o hy => hK y o (le7 y o hy) fun e => by rw [e, zf] at hy; cases hy
  have c3 : ∀ {G : PH}, G b3 = some (.cells #[pa bm] 61) → G.cell (Addr.mk b3 0 none) = some (pa bm) := fun h => by rw [cell_eq h]; rfl
  have n3m : b3 ≠ bm := fun e => by rw [e, qm] at q3; simp at q3
  have nfm : bf ≠ bm := fun e => by rw [← e, hC5.lnk.qf] at qm; simp at qm
  have nsm : ∀ a, s.base = some a → a.block ≠ bm := fun a ha e => by
    obtain ⟨o, ho⟩ := hs.block (by rw [nflat_length]; omega) ha
    rw [e, zm] at ho
    cases ho
  have qf := hC5.lnk.qf
  have hs5 := hs.le le8
  clear hC hC5 hK hne
  refine ⟨_, _, _, rfl, by rw [cell_eq q1]; rfl, c3 q3, c3 q3, c3 q3, _, rfl, rfl, plA_st _, _, _, qm, rfl, (by show 9 ≤ 19; omega), ?_⟩
  refine atI ?_
  have w1 : wr (mcells s noP noP bf l.length false) ((Addr.mk bm 0 none).add 1).off (plA (fB (treeL l))).toList = mcells s (fB (treeL l)) noP bf l.length false := mc_w1 _ _ _ _ _ _ _
  rw [w1]
  show (F5.set bm _).cell _ = _ ∧ _
  have q3a : (F5.set bm (.cells (mcells s (fB (treeL l)) noP bf l.length false) 79)) b3 = _ := (set_ne _ _ n3m).trans q3
  have qma := set_eq F5 bm (.cells (mcells s (fB (treeL l)) noP bf l.length false) 79)
  refine ⟨c3 q3a, c3 q3a, _, rfl, rfl, plA_st _, _, _, qma, rfl, (by show 17 ≤ 19; omega), ?_⟩
  refine atI ?_
  have w2 : wr (mcells s (fB (treeL l)) noP bf l.length false) ((Addr.mk bm 0 none).add 9).off (plA (lB (treeL l))).toList = mcells s (fB (treeL l)) (lB (treeL l)) bf l.length false := mc_w9 _ _ _ _ _ _ _
  rw [w2]
  rw [show ((F5.set ((Addr.mk bm 0 none).add 1).block (.cells (mcells s (fB (treeL l)) noP bf l.length false) 79)).set ((Addr.mk bm 0 none).add 9).block (.cells (mcells s (fB (treeL l)) (lB (treeL l)) bf l.length false) 79)) = F5.set bm (.cells (mcells s (fB (treeL l)) (lB (treeL l)) bf l.length false) 79) from set_twice _ _ _ _]
  have q3b : (F5.set bm (.cells (mcells s (fB (treeL l)) (lB (treeL l)) bf l.length false) 79)) b3 = _ := (set_ne _ _ n3m).trans q3
  have qmb := set_eq F5 bm (.cells (mcells s (fB (treeL l)) (lB (treeL l)) bf l.length false) 79)
  refine ⟨c3 q3b, _, rfl, ?_⟩
  refine st1' (b := bm) (o := 18) rfl qmb (by show 18 < 19; omega) ?_
  rw [set_twice]
  have w3 : (mcells s (fB (treeL l)) (lB (treeL l)) bf l.length false).setIfInBounds 18 (.bool (treeL l).nul) = mcells s (fB (treeL l)) (lB (treeL l)) bf l.length (treeL l).nul := mc_18 _ _ _ _ _ _ _
  rw [w3]
  refine ⟨_, c3 ((set_ne _ _ n3m).trans q3), k _ ⟨s, bf, set_eq _ _ _, hs5.keep fun a ha o ho => (set_ne _ _ (nsm a ha)).trans ho, ?_⟩ (le_set_new le8 zm)⟩
  rw [set_ne _ _ nfm, qf]
  congr 3
theorem compile_spec {s : Sl} (hT : Tab F) (hG : GoodL l) (hl : l.length ≤ 512) (hs : RdS F s 5 (nflat l)) : Spec prog 42 #[s.v] F fun r F' => (∃ bm, r = pa bm ∧ Mch F' bm l (treeL l)) ∧ F.le F' := by
  have hlen := hs.nlen
  refine c42 ?_
  unfold b42
  have fin : ∀ {F' : PH} {xs : List (Nat × Array Value × TypeId)} {b1 bf bm b3 : Nat}, Lo F F' xs → (b1, #[s.v], 25) ∈ xs → (b3, #[pa bm], 61) ∈ xs →
      (bm, (#[s.v, .int .u64 0, .int .u64 0, .int .u64 0, .int .u64 0, .int .u64 0, .int .u64 0, .int .u64 0, .int .u64 0, .int .u64 0, .int .u64 0, .int .u64 0, .int .u64 0, .int .u64 0, .int .u64 0, .int .u64 0, .int .u64 0, Sl.v ⟨some ⟨bf, 0, none⟩, s.len, s.len⟩, .bool false] : Array Value), 79) ∈ xs →
      (bf, (flatR s.len noR).toArray, 76) ∈ xs → b42j1 b1 (some ⟨b3, 0, none⟩) (fun r F' => (∃ bm, r = pa bm ∧ Mch F' bm l (treeL l)) ∧ F.le F') F' := fun h m1 m3 mm mf => by
    have em : ∀ bf : Nat, (#[s.v, .int .u64 0, .int .u64 0, .int .u64 0, .int .u64 0, .int .u64 0, .int .u64 0, .int .u64 0, .int .u64 0, .int .u64 0, .int .u64 0, .int .u64 0, .int .u64 0, .int .u64 0, .int .u64 0, .int .u64 0, .int .u64 0, Sl.v ⟨some ⟨bf, 0, none⟩, s.len, s.len⟩, .bool false] : Array Value) = mcells s noP noP bf l.length false := fun bf => by
      unfold mcells noP
      simp only [wd_zero, hlen]
      rfl
    rw [em] at mm
    rw [hlen] at mf
    exact compile_j1 hT hG hl hs h.le (h.get m1) (h.get m3) (h.get mm) (h.get mf) (h.z _ mm).2 (h.z _ mf).2 fun F'' a b => ⟨⟨_, rfl, a⟩, b⟩
  have h := Lo.start F
  refine h.new _ _ fun b1 F1 h => ?_
  have c1 : F1.cell (Addr.mk b1 0 none) = some s.v := by rw [h.cell (b := b1) (w := #[s.v]) (e := 25) (by simp)]; rfl
  refine ⟨s, c1, s, c1, ?_, ?_⟩
  · refine runs_makeSlice underlying77 sz76' zr76' rfl (by omega) (Int.le_refl _) (by omega) (by omega) ?_
    intro bf hbf
    rw [zc8, Int.toNat_natCast]
    have h := h.new' (flatR s.len noR).toArray 76 hbf
    generalize F1.set bf (.cells (flatR s.len noR).toArray 76) = F2 at *
    have c1 : F2.cell (Addr.mk b1 0 none) = some s.v := by rw [h.cell (b := b1) (w := #[s.v]) (e := 25) (by simp)]; rfl
    refine ⟨_, rfl, c1, c1, ?_, ?_⟩
    · refine h.new _ _ fun bm F3 h => ?_
      refine h.new _ _ fun b3 F4 h => ?_
      refine Lo.put1 [] [(bm, _, 79), (bf, _, 76), (b1, _, 25)] (b := b3) (i := 0) (w0 := #[.pointer none]) (w := #[pa bm]) (e := 61) h (by simp) rfl fun F5 h => ?_
      exact fin h (.tail _ (.tail _ (.tail _ (.head _)))) (.head _) (.tail _ (.head _)) (.tail _ (.tail _ (.head _)))
    · refine h.new _ _ fun b3 F3 h => ?_
      refine h.new _ _ fun bm F4 h => ?_
      refine Lo.put1 [(bm, _, 79)] [(bf, _, 76), (b1, _, 25)] (b := b3) (i := 0) (w0 := #[.pointer none]) (w := #[pa bm]) (e := 61) h (by simp) rfl fun F5 h => ?_
      exact fin h (.tail _ (.tail _ (.tail _ (.head _)))) (.tail _ (.head _)) (.head _) (.tail _ (.tail _ (.head _)))
  · refine h.new _ _ fun b3 F2 h => ?_
    refine runs_makeSlice underlying77 sz76' zr76' rfl (by omega) (Int.le_refl _) (by omega) (by omega) ?_
    intro bf hbf
    rw [zc8, Int.toNat_natCast]
    have h := h.new' (flatR s.len noR).toArray 76 hbf
    generalize F2.set bf (.cells (flatR s.len noR).toArray 76) = F3 at *
    have c1 : F3.cell (Addr.mk b1 0 none) = some s.v := by rw [h.cell (b := b1) (w := #[s.v]) (e := 25) (by simp)]; rfl
    refine ⟨_, rfl, c1, c1, ?_⟩
    refine h.new _ _ fun bm F4 h => ?_
    refine Lo.put1 [(bm, _, 79), (bf, _, 76)] [(b1, _, 25)] (b := b3) (i := 0) (w0 := #[.pointer none]) (w := #[pa bm]) (e := 61) h (by simp) rfl fun F5 h => ?_
    exact fin h (.tail _ (.tail _ (.tail _ (.head _)))) (.tail _ (.tail _ (.head _))) (.head _) (.tail _ (.head _))
end
end Go.Proofs.YtnjcgpihfmklfaaDoor
