/-
  The diagrams: the canonical diagram of a number of a builder.
-/
import Derived.Test.YtafojmoeaneedaaPhn
import Derived.Test.YtafojmoeaneedaaRb
import Derived.Test.YtafojmoeaneedaaGa
namespace Go.Proofs.Ytafojmoeaneedaa
open Go Go.Proofs.Try Tr
set_option maxRecDepth 10000

abbrev vi (n : Int) : Value := .int .i64 n
abbrev Fit (n : Nat) : Prop := n ≤ 1000000000000
def bcells (b : Br) : List Value := [vi b.v, vi b.l, vi b.h]
def bflat (l : List Br) : List Value := l.flatMap bcells
abbrev barr (b : Br) : Array Value := #[vi b.v, vi b.l, vi b.h]

theorem bflat_length (l : List Br) : (bflat l).length = l.length * 3 := by
  induction l with
  | nil => rfl
  | cons b l ih => simp only [bflat, List.flatMap_cons, List.length_append, List.length_cons] at ih ⊢; rw [ih]; simp [bcells]; omega
theorem bflat_append (l m : List Br) : bflat (l ++ m) = bflat l ++ bflat m := by simp [bflat]
theorem bflat_get : ∀ (l : List Br) (i : Nat) (hi : i < l.length), ((bflat l).drop (i * 3)).take 3 = bcells l[i]
  | b :: l, 0, _ => by simp [bflat, bcells]
  | b :: l, i + 1, hi => by
    have e : (i + 1) * 3 = 3 + i * 3 := by omega
    have : bflat (b :: l) = bcells b ++ bflat l := by simp [bflat]
    rw [this, e, ← List.drop_drop, List.drop_left' (by simp [bcells])]
    simpa using bflat_get l i (by simpa using hi)
theorem st_bflat (l : List Br) : ∀ v ∈ bflat l, storable v := by
  intro v hv
  obtain ⟨b, _, hb⟩ := List.mem_flatMap.1 hv
  simp only [bcells, List.mem_cons, List.not_mem_nil, or_false] at hb
  rcases hb with rfl | rfl | rfl <;> exact st_int
theorem st_barr (b : Br) : ∀ v ∈ (barr b).toList, storable v := by
  intro v hv
  simp only [List.mem_cons, List.not_mem_nil, or_false] at hv
  rcases hv with rfl | rfl | rfl <;> exact st_int

theorem RdS.blen {F : PH} {s : Sl} {l : List Br} (h : RdS F s 3 (bflat l)) : s.len = l.length := by have := h.len; rw [bflat_length] at this; omega
theorem rdb {F : PH} {s : Sl} {l : List Br} (h : RdS F s 3 (bflat l)) {i : Nat} {x : Br} (hx : l[i]? = some x) : ∃ a, s.base = some a ∧ F.row (a.add (i * 3)) (barr x) ∧
    F.cell (a.add (i * 3)) = some (vi x.v) ∧ F.cell ((a.add (i * 3)).add 1) = some (vi x.l) ∧ F.cell ((a.add (i * 3)).add 2) = some (vi x.h) := by
  obtain ⟨hi, hx⟩ := List.getElem?_eq_some_iff.1 hx
  subst hx
  have hlen := h.blen
  obtain ⟨b, o, hb, _⟩ := h.cells (by omega)
  have hr := h.row hb (i * 3) (barr l[i]) (by
    have := bflat_get l i hi
    simpa [barr, bcells] using this.symm)
  refine ⟨_, hb, hr, ?_, ?_, ?_⟩
  · have := hr 0 (by simp); simpa using this
  · have := hr 1 (by simp); simpa using this
  · have := hr 2 (by simp); simpa using this

/-- A diagram in memory. -/
def DV (F : PH) (v : Array Value) (d : Dia) : Prop := ∃ s : Sl, v = #[s.v, vi d.2] ∧ RdS F s 3 (bflat d.1)
theorem DV.le {F G : PH} {v : Array Value} {d : Dia} (h : DV F v d) (hl : F.le G) : DV G v d := by
  obtain ⟨s, h1, h2⟩ := h
  exact ⟨s, h1, h2.le hl⟩
theorem DV.size {F : PH} {v : Array Value} {d : Dia} (h : DV F v d) : v.size = 2 := by
  obtain ⟨s, rfl, _⟩ := h
  rfl
theorem DV.st {F : PH} {v : Array Value} {d : Dia} (h : DV F v d) : ∀ x ∈ v.toList, storable x := by
  obtain ⟨s, rfl, _⟩ := h
  intro x hx
  simp only [List.mem_cons, List.not_mem_nil, or_false] at hx
  rcases hx with rfl | rfl
  · exact st_sl
  · exact st_int
theorem PH.le_rfl {F : PH} : F.le F := fun _ _ h => h

theorem brs_pre_get {S : List Tr} {d : List Br} (hp : brs S <+: d) {k : Nat} {t : Tr} (h : S[k]? = some t) : d[k]? = some (br S t) := by
  obtain ⟨r, rfl⟩ := hp
  rw [List.getElem?_append_left (by rw [brs_length]; exact (List.getElem?_eq_some_iff.1 h).1)]
  exact brs_get h
theorem w64m2 {n : Nat} (h : Fit n) (h2 : 2 ≤ n) : IntKind.i64.wrap ((n : Int) - 2) = ((n - 2 : Nat) : Int) := by
  rw [w64_eq (by omega) (by omega)]; omega

section
variable {F : PH} {v : Array Value} {d : Dia} {S : List Tr} {t : Tr}
theorem num_fit (hp : brs S <+: d.1) (ht : inn S t) (hf : Fit (d.1.length + 2)) : Fit (num S t) ∧ num S t ≤ d.1.length + 1 := by
  have h1 := num_le ht
  have h2 := hp.length_le
  rw [brs_length] at h2
  omega
theorem level_spec (hd : DV F v d) (hp : brs S <+: d.1) (ht : inn S t) (hf : Fit (d.1.length + 2)) :
    Spec prog 63 #[.agg v, vi (num S t)] F fun r F' => r = vi t.top ∧ F.le F' := by
  obtain ⟨hfit, hlt⟩ := num_fit hp ht hf
  obtain ⟨s, rfl, hr⟩ := hd
  refine c63 ?_
  unfold b63
  intro b2 hb2
  refine atI ?_
  have hle := le_set_fresh (.cells #[s.v, vi d.2] 28) hb2
  refine ⟨fun h => ?_, fun h => ?_⟩
  · have hl := num_lt2 (S := S) (t := t) (by omega)
    cases t with
    | leaf b => exact ⟨rfl, hle⟩
    | node _ _ _ => cases hl
  · cases t with
    | leaf b => have := num_leaf_le S b; omega
    | node w l r =>
      have hx := brs_pre_get hp (num_get (inn_mem ht rfl) rfl)
      obtain ⟨a, h1, _, h2, _⟩ := rdb (hr.le hle) hx
      have hw := w64m2 hfit (num_ge (S := S) (t := node w l r) rfl)
      have hg := num_ge (S := S) (t := node w l r) rfl
      refine ⟨s, by simp, a, h1, by rw [hw]; omega, by rw [hw, hr.blen]; omega, _, by rw [hw]; exact h2, rfl, hle⟩

theorem sides_spec (hd : DV F v d) (hp : brs S <+: d.1) (ht : inn S t) (hf : Fit (d.1.length + 2)) {w : Nat} (hw : w < 64) :
    Spec prog 98 #[.agg v, vi (num S t), vi w] F fun r F' => r = .tuple #[vi (num S (lo w t)), vi (num S (hi w t))] ∧ F.le F' := by
  obtain ⟨hfit, hlt⟩ := num_fit hp ht hf
  have hd' := hd
  obtain ⟨s, rfl, hr⟩ := hd
  refine c98 ?_
  unfold b98
  intro b3 hb3
  refine atI ?_
  have hle := le_set_fresh (.cells #[s.v, vi d.2] 28) hb3
  refine ⟨_, rfl, row_whole (set_eq _ _ _), ?_⟩
  refine (level_spec (hd'.le hle) hp ht hf).mono ?_
  rintro _ F2 ⟨rfl, hle2⟩
  have hc : F2 b3 = some _ := hle2 _ _ (set_eq _ _ _)
  have hle' : F.le F2 := fun b o h => hle2 b o (hle b o h)
  refine ⟨_, rfl, fun h => ?_, fun h => ?_⟩
  · refine ⟨?_, hle'⟩
    cases t with
    | leaf b => rfl
    | node w' l r =>
      have : ¬ w' = w := fun e => h (by simp [Tr.top, e])
      simp [lo, hi, this]
  · cases t with
    | leaf b => simp only [Tr.top] at h; omega
    | node w' l r =>
      have e : w' = w := by simp only [Tr.top] at h; omega
      subst e
      have hx := brs_pre_get hp (num_get (inn_mem ht rfl) rfl)
      obtain ⟨a, h1, _, _, h3, h4⟩ := rdb (hr.le hle') hx
      have hw := w64m2 hfit (num_ge (S := S) (t := node w' l r) rfl)
      have hg := num_ge (S := S) (t := node w' l r) rfl
      refine ⟨s, by rw [cell_eq hc]; rfl, a, h1, by rw [hw]; omega, by rw [hw, hr.blen]; omega, _, by rw [hw]; exact h3,
        s, by rw [cell_eq hc]; rfl, a, h1, by rw [hw]; omega, by rw [hw, hr.blen]; omega, _, by rw [hw]; exact h4, ?_, hle'⟩
      simp [lo, hi, br]
end
theorem eq_int (d : Nat) (a b : Int) (F : PH) : rdo prog (Op.equalIn (d + 1) 3 (vi a) (vi b)) F (decide (a = b)) := by
  simp only [Op.equalIn, rdo_bind]
  refine ⟨_, (rdo_underlying underlying3 _).2 rfl, ?_⟩
  simp only [if_true, rdo_pure]
  by_cases h : a = b <;> simp [h]
theorem part_int (cs : Array Value) (off : Nat) (v : Value) (h : cs[off]? = some v) (F : PH) : rdo prog (part 3 cs off) F v := by
  unfold part
  simp only [rdo_bind]
  refine ⟨false, (rdo_isAgg underlying3 _).2 rfl, ?_⟩
  simp only [Bool.false_eq_true, if_false, h]
  rfl
theorem chk_int (e : Bool) (n : Nat) (a : Int) (F : PH) : rdo prog (Instr.checkKey e (n + 1) 3 (vi a)) F () := by
  simp only [Instr.checkKey, rdo_bind]
  refine ⟨_, (rdo_underlying underlying3 _).2 rfl, ?_⟩
  rfl
theorem si72 : prog.stoodInHeld 72 = false := by kernel_rfl

abbrev LS := ForInStep (Option Bool × Unit)
theorem fld_step (n : Nat) (off : Nat) (cs ds : Array Value) (x y : Int) (h1 : cs[off]? = some (vi x)) (h2 : ds[off]? = some (vi y)) (F : PH) :
    rdo prog (do
      let a ← part 3 cs off
      let b ← part 3 ds off
      let r ← Op.equalIn (n + 1) 3 a b
      if (!r) = true then pure (ForInStep.done (some false, ())) else pure (ForInStep.yield (none, ())) : Sem LS) F (if x = y then .yield (none, ()) else .done (some false, ())) := by
  simp only [rdo_bind]
  refine ⟨_, part_int _ _ _ h1 F, _, part_int _ _ _ h2 F, _, eq_int n x y F, ?_⟩
  by_cases h : x = y
  · simp [h]
  · simp [h]

theorem eqBr (x y : Br) (F : PH) : rdo prog (Op.equal 72 (.agg (barr x)) (.agg (barr y))) F (decide (x = y)) := by
  unfold Op.equal Op.maxDepth
  show rdo prog (Op.equalIn (9998 + 1 + 1) 72 _ _) _ _
  unfold Op.equalIn
  simp only [rdo_bind]
  refine ⟨_, (rdo_underlying underlying72 _).2 rfl, ?_⟩
  dsimp only
  rw [rdo_bind]
  refine ⟨prog, rfl, ?_⟩
  rw [si72]
  simp only [Bool.false_eq_true, if_false]
  simp only [List.forIn_toArray, List.forIn_cons, List.forIn_nil, rdo_bind]
  obtain ⟨a, b, c⟩ := x
  obtain ⟨d, e, f⟩ := y
  rw [if_pos (by decide), if_pos (by decide), if_pos (by decide)]
  by_cases h1 : a = d
  · by_cases h2 : b = e
    · by_cases h3 : c = f
      · refine ⟨(none, ()), ⟨_, fld_step 9998 0 _ _ a d rfl rfl F, ?_⟩, ?_⟩
        · rw [if_pos h1]
          refine (rdo_bind _ _ _ _).2 ⟨_, fld_step 9998 1 _ _ b e rfl rfl F, ?_⟩
          rw [if_pos h2]
          refine (rdo_bind _ _ _ _).2 ⟨_, fld_step 9998 2 _ _ c f rfl rfl F, ?_⟩
          rw [if_pos h3]
          rfl
        · simp [h1, h2, h3]
      · refine ⟨(some false, ()), ⟨_, fld_step 9998 0 _ _ a d rfl rfl F, ?_⟩, ?_⟩
        · rw [if_pos h1]
          refine (rdo_bind _ _ _ _).2 ⟨_, fld_step 9998 1 _ _ b e rfl rfl F, ?_⟩
          rw [if_pos h2]
          refine (rdo_bind _ _ _ _).2 ⟨_, fld_step 9998 2 _ _ c f rfl rfl F, ?_⟩
          rw [if_neg h3]
          rfl
        · simp [h3]
    · refine ⟨(some false, ()), ⟨_, fld_step 9998 0 _ _ a d rfl rfl F, ?_⟩, ?_⟩
      · rw [if_pos h1]
        refine (rdo_bind _ _ _ _).2 ⟨_, fld_step 9998 1 _ _ b e rfl rfl F, ?_⟩
        rw [if_neg h2]
        rfl
      · simp [h2]
  · refine ⟨(some false, ()), ⟨_, fld_step 9998 0 _ _ a d rfl rfl F, ?_⟩, ?_⟩
    · rw [if_neg h1]
      rfl
    · simp [h1]

theorem chk_step (e : Bool) (n : Nat) (off : Nat) (cs : Array Value) (x : Int) (h1 : cs[off]? = some (vi x)) (F : PH) :
    rdo prog (do
      let a ← part 3 cs off
      Instr.checkKey e (n + 1) 3 a
      pure (ForInStep.yield PUnit.unit) : Sem (ForInStep PUnit)) F (.yield PUnit.unit) := by
  simp only [rdo_bind]
  exact ⟨_, part_int _ _ _ h1 F, _, chk_int e n x F, rfl⟩
theorem chkBr (e : Bool) (x : Br) (F : PH) : rdo prog (Instr.checkKey e 10000 72 (.agg (barr x))) F () := by
  show rdo prog (Instr.checkKey e (9998 + 1 + 1) 72 _) _ _
  unfold Instr.checkKey
  simp only [rdo_bind]
  refine ⟨_, (rdo_underlying underlying72 _).2 rfl, ?_⟩
  dsimp only
  simp only [List.forIn_toArray, List.forIn_cons, List.forIn_nil]
  rw [if_pos (by decide), if_pos (by decide), if_pos (by decide)]
  refine (rdo_bind _ _ _ _).2 ⟨PUnit.unit, (rdo_bind _ _ _ _).2 ⟨_, chk_step e 9998 0 _ _ rfl F, (rdo_bind _ _ _ _).2 ⟨_, chk_step e 9998 1 _ _ rfl F, (rdo_bind _ _ _ _).2 ⟨_, chk_step e 9998 2 _ _ rfl F, rfl⟩⟩⟩, rfl⟩

/-! triples and pairs -/
theorem arr_step (n : Nat) (i sz : Nat) (hz : sz = 1) (cs ds : Array Value) (x y : Int) (h1 : cs[i]? = some (vi x)) (h2 : ds[i]? = some (vi y)) (F : PH) :
    rdo prog (do
      let a ← part 3 cs (i * sz)
      let b ← part 3 ds (i * sz)
      let r ← Op.equalIn (n + 1) 3 a b
      if (!r) = true then pure (ForInStep.done (some false, ())) else pure (ForInStep.yield (none, ())) : Sem LS) F (if x = y then .yield (none, ()) else .done (some false, ())) := by
  subst hz
  rw [Nat.mul_one]
  exact fld_step n i cs ds x y h1 h2 F
theorem arr_chk (e : Bool) (n : Nat) (i : Nat) (cs : Array Value) (x : Int) (h1 : cs[i]? = some (vi x)) (F : PH) :
    rdo prog (do
      let s ← sizeOf 3
      let a ← part 3 cs (i * s)
      Instr.checkKey e (n + 1) 3 a
      pure (ForInStep.yield PUnit.unit) : Sem (ForInStep PUnit)) F (.yield PUnit.unit) := by
  refine (rdo_bind _ _ _ _).2 ⟨1, (rdo_sizeOf sz3 _).2 rfl, ?_⟩
  rw [Nat.mul_one]
  exact chk_step e n i cs x h1 F
abbrev arr3 (x : Int × Int × Int) : Array Value := #[vi x.1, vi x.2.1, vi x.2.2]
abbrev arr2 (x : Int × Int) : Array Value := #[vi x.1, vi x.2]
theorem eq3 (x y : Int × Int × Int) (F : PH) : rdo prog (Op.equal 114 (.agg (arr3 x)) (.agg (arr3 y))) F (decide (x = y)) := by
  unfold Op.equal Op.maxDepth
  show rdo prog (Op.equalIn (9998 + 1 + 1) 114 _ _) _ _
  unfold Op.equalIn
  simp only [rdo_bind]
  refine ⟨_, (rdo_underlying underlying114 _).2 rfl, ?_⟩
  dsimp only
  refine (rdo_bind _ _ _ _).2 ⟨1, (rdo_sizeOf sz3 _).2 rfl, ?_⟩
  rw [Std.Legacy.Range.forIn_eq_forIn_range']
  simp only [Std.Legacy.Range.size, Nat.sub_zero, Nat.add_one_sub_one, Nat.div_one, List.range', List.forIn_cons, List.forIn_nil, Nat.zero_add, Nat.reduceAdd]
  obtain ⟨a, b, c⟩ := x
  obtain ⟨d, e, f⟩ := y
  by_cases h0 : a = d
  · skip
    by_cases h1 : b = e
    · skip
      by_cases h2 : c = f
      · skip
        refine (rdo_bind _ _ _ _).2 ⟨(none, ()), (rdo_bind _ _ _ _).2 ⟨_, arr_step 9998 0 1 rfl _ _ a d rfl rfl F, ?_⟩, ?_⟩
        · skip
          rw [if_pos h0]
          refine (rdo_bind _ _ _ _).2 ⟨_, arr_step 9998 1 1 rfl _ _ b e rfl rfl F, ?_⟩
          rw [if_pos h1]
          refine (rdo_bind _ _ _ _).2 ⟨_, arr_step 9998 2 1 rfl _ _ c f rfl rfl F, ?_⟩
          rw [if_pos h2]
          rfl
        · simp [h0, h1, h2]
      · skip
        refine (rdo_bind _ _ _ _).2 ⟨(some false, ()), (rdo_bind _ _ _ _).2 ⟨_, arr_step 9998 0 1 rfl _ _ a d rfl rfl F, ?_⟩, ?_⟩
        · skip
          rw [if_pos h0]
          refine (rdo_bind _ _ _ _).2 ⟨_, arr_step 9998 1 1 rfl _ _ b e rfl rfl F, ?_⟩
          rw [if_pos h1]
          refine (rdo_bind _ _ _ _).2 ⟨_, arr_step 9998 2 1 rfl _ _ c f rfl rfl F, ?_⟩
          rw [if_neg h2]
          rfl
        · simp [h0, h1, h2]
    · skip
      refine (rdo_bind _ _ _ _).2 ⟨(some false, ()), (rdo_bind _ _ _ _).2 ⟨_, arr_step 9998 0 1 rfl _ _ a d rfl rfl F, ?_⟩, ?_⟩
      · skip
        rw [if_pos h0]
        refine (rdo_bind _ _ _ _).2 ⟨_, arr_step 9998 1 1 rfl _ _ b e rfl rfl F, ?_⟩
        rw [if_neg h1]
        rfl
      · simp [h0, h1]
  · skip
    refine (rdo_bind _ _ _ _).2 ⟨(some false, ()), (rdo_bind _ _ _ _).2 ⟨_, arr_step 9998 0 1 rfl _ _ a d rfl rfl F, ?_⟩, ?_⟩
    · skip
      rw [if_neg h0]
      rfl
    · simp [h0]
theorem chk3 (e : Bool) (x : Int × Int × Int) (F : PH) : rdo prog (Instr.checkKey e 10000 114 (.agg (arr3 x))) F () := by
  show rdo prog (Instr.checkKey e (9998 + 1 + 1) 114 _) _ _
  unfold Instr.checkKey
  simp only [rdo_bind]
  refine ⟨_, (rdo_underlying underlying114 _).2 rfl, ?_⟩
  dsimp only
  rw [Std.Legacy.Range.forIn_eq_forIn_range']
  simp only [Std.Legacy.Range.size, Nat.sub_zero, Nat.add_one_sub_one, Nat.div_one, List.range', List.forIn_cons, List.forIn_nil, Nat.zero_add, Nat.reduceAdd]
  refine (rdo_bind _ _ _ _).2 ⟨PUnit.unit, (rdo_bind _ _ _ _).2 ⟨_, arr_chk e 9998 0 _ _ rfl F, (rdo_bind _ _ _ _).2 ⟨_, arr_chk e 9998 1 _ _ rfl F, (rdo_bind _ _ _ _).2 ⟨_, arr_chk e 9998 2 _ _ rfl F, rfl⟩⟩⟩, rfl⟩
theorem eq2 (x y : Int × Int) (F : PH) : rdo prog (Op.equal 123 (.agg (arr2 x)) (.agg (arr2 y))) F (decide (x = y)) := by
  unfold Op.equal Op.maxDepth
  show rdo prog (Op.equalIn (9998 + 1 + 1) 123 _ _) _ _
  unfold Op.equalIn
  simp only [rdo_bind]
  refine ⟨_, (rdo_underlying underlying123 _).2 rfl, ?_⟩
  dsimp only
  refine (rdo_bind _ _ _ _).2 ⟨1, (rdo_sizeOf sz3 _).2 rfl, ?_⟩
  rw [Std.Legacy.Range.forIn_eq_forIn_range']
  simp only [Std.Legacy.Range.size, Nat.sub_zero, Nat.add_one_sub_one, Nat.div_one, List.range', List.forIn_cons, List.forIn_nil, Nat.zero_add, Nat.reduceAdd]
  obtain ⟨a, b⟩ := x
  obtain ⟨d, e⟩ := y
  by_cases h0 : a = d
  · skip
    by_cases h1 : b = e
    · skip
      refine (rdo_bind _ _ _ _).2 ⟨(none, ()), (rdo_bind _ _ _ _).2 ⟨_, arr_step 9998 0 1 rfl _ _ a d rfl rfl F, ?_⟩, ?_⟩
      · skip
        rw [if_pos h0]
        refine (rdo_bind _ _ _ _).2 ⟨_, arr_step 9998 1 1 rfl _ _ b e rfl rfl F, ?_⟩
        rw [if_pos h1]
        rfl
      · simp [h0, h1]
    · skip
      refine (rdo_bind _ _ _ _).2 ⟨(some false, ()), (rdo_bind _ _ _ _).2 ⟨_, arr_step 9998 0 1 rfl _ _ a d rfl rfl F, ?_⟩, ?_⟩
      · skip
        rw [if_pos h0]
        refine (rdo_bind _ _ _ _).2 ⟨_, arr_step 9998 1 1 rfl _ _ b e rfl rfl F, ?_⟩
        rw [if_neg h1]
        rfl
      · simp [h0, h1]
  · skip
    refine (rdo_bind _ _ _ _).2 ⟨(some false, ()), (rdo_bind _ _ _ _).2 ⟨_, arr_step 9998 0 1 rfl _ _ a d rfl rfl F, ?_⟩, ?_⟩
    · skip
      rw [if_neg h0]
      rfl
    · simp [h0]
theorem chk2 (e : Bool) (x : Int × Int) (F : PH) : rdo prog (Instr.checkKey e 10000 123 (.agg (arr2 x))) F () := by
  show rdo prog (Instr.checkKey e (9998 + 1 + 1) 123 _) _ _
  unfold Instr.checkKey
  simp only [rdo_bind]
  refine ⟨_, (rdo_underlying underlying123 _).2 rfl, ?_⟩
  dsimp only
  rw [Std.Legacy.Range.forIn_eq_forIn_range']
  simp only [Std.Legacy.Range.size, Nat.sub_zero, Nat.add_one_sub_one, Nat.div_one, List.range', List.forIn_cons, List.forIn_nil, Nat.zero_add, Nat.reduceAdd]
  refine (rdo_bind _ _ _ _).2 ⟨PUnit.unit, (rdo_bind _ _ _ _).2 ⟨_, arr_chk e 9998 0 _ _ rfl F, (rdo_bind _ _ _ _).2 ⟨_, arr_chk e 9998 1 _ _ rfl F, rfl⟩⟩, rfl⟩
abbrev encB (x : Br) : Value := .agg (barr x)
abbrev encI (x : Int) : Value := vi x
theorem keyI : KeyTy prog 3 encI := by
  refine ⟨fun F a b => ?_, fun F e a => ?_, fun a => ?_, _, underlying3, .inl fun a b => ?_⟩
  · unfold Op.equal Op.maxDepth
    exact eq_int 9999 a b F
  · exact chk_int e 9999 a F
  · unfold Instr.sameBits; simp
  · unfold Instr.sameNow
    simp only [if_true]
    by_cases h : a = b <;> simp [h]
theorem keyB : KeyTy prog 72 encB := by
  refine ⟨fun F a b => eqBr a b F, fun F e a => chkBr e a F, fun a => ?_, _, underlying72, .inr fun a b => ?_⟩
  · show Instr.sameBits (9998 + 1 + 1) _ _ = true
    simp [Instr.sameBits]
  · rfl
abbrev enc3 (x : Int × Int × Int) : Value := .agg (arr3 x)
theorem key3 : KeyTy prog 114 enc3 := by
  refine ⟨fun F a b => eq3 a b F, fun F e a => chk3 e a F, fun a => ?_, _, underlying114, .inr fun a b => ?_⟩
  · show Instr.sameBits (9998 + 1 + 1) _ _ = true
    simp [Instr.sameBits]
  · rfl
abbrev enc2 (x : Int × Int) : Value := .agg (arr2 x)
theorem key2 : KeyTy prog 123 enc2 := by
  refine ⟨fun F a b => eq2 a b F, fun F e a => chk2 e a F, fun a => ?_, _, underlying123, .inr fun a b => ?_⟩
  · show Instr.sameBits (9998 + 1 + 1) _ _ = true
    simp [Instr.sameBits]
  · rfl
theorem zr4b : tzero prog 4 = some (.bool false) := by kernel_rfl
theorem mtN : MapTy prog 109 encI (vi 0) := ⟨_, _, underlying109, zr3, keyI⟩
theorem mtB : MapTy prog 82 encB (vi 0) := ⟨_, _, underlying82, zr3, keyB⟩
theorem mtK : MapTy prog 79 encB (.bool false) := ⟨_, _, underlying79, zr4b, keyB⟩
theorem mt3 : MapTy prog 112 enc3 (vi 0) := ⟨_, _, underlying112, zr3, key3⟩
theorem mt2 : MapTy prog 121 enc2 (.bool false) := ⟨_, _, underlying121, zr4b, key2⟩
/-! equality of diagrams -/
theorem equal_spec {F : PH} {a b : Sl} {x y : List Br} (ha : RdS F a 3 (bflat x)) (hb : RdS F b 3 (bflat y)) (hl : Fit x.length) :
    Spec prog 65 #[a.v, b.v] F fun v F' => v = .bool (decide (x = y)) ∧ F' = F := by
  have hal := ha.blen
  have hbl := hb.blen
  refine c65 ?_
  unfold b65
  refine ⟨fun h => ?_, fun h => ?_⟩
  · refine ⟨?_, rfl⟩
    have : ¬ x = y := by intro e; subst e; omega
    simp [this]
  · have hlen : x.length = y.length := by omega
    refine ⟨fun m i F' => ∃ k : Nat, i = k ∧ k ≤ x.length ∧ m = x.length - k ∧ F' = F ∧ x.take k = y.take k, x.length, ⟨0, rfl, by omega, rfl, rfl, rfl⟩, ?_⟩
    rintro m i F' ⟨k, rfl, hk, rfl, rfl, htake⟩
    unfold b65L1
    refine ⟨fun hlt => ?_, fun hge => ?_⟩
    · have hkx : k < x.length := by omega
      have hky : k < y.length := by omega
      obtain ⟨p, hp, hpr, _⟩ := rdb ha (List.getElem?_eq_getElem hkx)
      obtain ⟨q, hq, hqr, _⟩ := rdb hb (List.getElem?_eq_getElem hky)
      refine ⟨p, hp, by omega, hlt, barr x[k], rfl, by simpa using hpr, q, hq, by omega, by omega, barr y[k], rfl, by simpa using hqr, decide (x[k] = y[k]), fun F => eqBr x[k] y[k] F, fun hne => ?_, fun heq => ?_⟩
      · refine ⟨?_, rfl⟩
        have : ¬ x = y := by rintro rfl; simp at hne
        simp [this]
      · refine ⟨x.length - (k + 1), by omega, k + 1, w64s (by omega), by omega, rfl, rfl, ?_⟩
        rw [List.take_succ_eq_append_getElem hkx, List.take_succ_eq_append_getElem hky, htake]
        simp at heq
        rw [heq]
    · refine ⟨?_, rfl⟩
      have hk' : k = x.length := by omega
      rw [hk', List.take_length, hlen, List.take_length] at htake
      simp [htake]
theorem same_spec {F : PH} {v w : Array Value} {d e : Dia} (hd : DV F v d) (he : DV F w e) (hl : Fit d.1.length) :
    Spec prog 24 #[.agg v, .agg w] F fun r F' => r = .bool (decide (d = e)) ∧ F.le F' := by
  obtain ⟨s, rfl, hr⟩ := hd
  obtain ⟨t, rfl, ht⟩ := he
  refine c24 ?_
  unfold b24
  intro b2 hb2
  refine atI ?_
  have hle2 := le_set_fresh (.cells #[s.v, vi d.2] 28) hb2
  intro b3 hb3
  refine atI ?_
  have hle3 := le_set_fresh (.cells #[t.v, vi e.2] 28) hb3
  have hle : F.le _ := fun b o h => hle3 b o (hle2 b o h)
  have hc2 := hle3 _ _ (set_eq F b2 (.cells #[s.v, vi d.2] 28))
  have hc3 := set_eq (F.set b2 (.cells #[s.v, vi d.2] 28)) b3 (.cells #[t.v, vi e.2] 28)
  generalize (F.set b2 (.cells #[s.v, vi d.2] 28)).set b3 (.cells #[t.v, vi e.2] 28) = G at *
  refine ⟨_, by rw [cell_eq hc2]; rfl, _, by rw [cell_eq hc3]; rfl, fun h => ?_, fun h => ?_⟩
  · refine ⟨s, by rw [cell_eq hc2]; rfl, t, by rw [cell_eq hc3]; rfl, ?_⟩
    refine (equal_spec (hr.le hle) (ht.le hle) hl).mono ?_
    rintro _ F' ⟨rfl, rfl⟩
    refine ⟨_, rfl, ?_, hle⟩
    obtain ⟨d1, d2⟩ := d
    obtain ⟨e1, e2⟩ := e
    simp only at h
    simp [h]
  · refine ⟨?_, hle⟩
    have : ¬ d = e := by rintro rfl; exact h rfl
    simp [this]

/-! the builder -/
/-- What the builder knows: the numbers of its branches. -/
def mpS (S : List Tr) (x : Br) : Option Value := if x ∈ brs S then some (vi (((brs S).idxOf x + 2 : Nat) : Int)) else none
/-- The builder at b (its map at m) holds the branches of S; its blocks are not in F0. -/
structure BD (F0 F : PH) (b m : Nat) (S : List Tr) : Prop where
  le : F0.le F
  cl : Cl S
  nb : F0 b = none
  nm : F0 m = none
  ex : ∃ s : Sl, F b = some (.cells #[s.v, .map (some m)] 84) ∧ OwnS F 72 3 s (bflat (brs S)) ∧ ∀ a, s.base = some a → F0 a.block = none
  map : ∃ o, F m = some o ∧ MapO encB (mpS S) o

theorem OwnS.elem {F : PH} {e size : Nat} {s : Sl} {vs : List Value} (h : OwnS F e size s vs) {a : Addr} (ha : s.base = some a) : ∃ cur, F a.block = some (.cells cur e (0, 0)) := by
  rcases h with ⟨rfl, rfl⟩ | ⟨b, cur, h1, h2, _⟩
  · cases ha
  · rw [h1] at ha
    cases ha
    exact ⟨cur, h2⟩

theorem newBuilder_spec (F : PH) : Spec prog 96 #[] F fun r F' => ∃ b m, r = .pointer (some ⟨b, 0, none⟩) ∧ b ≠ m ∧ BD F F' b m [] := by
  refine c96 ?_
  unfold b96
  intro b1 hb1
  refine atI ?_
  intro b3 hb3
  refine atI ?_
  have hle1 := le_set_fresh (.map #[] 0) hb1
  have hle3 := le_set_fresh (.cells #[Value.slice none 0 0, Value.map (some b1)] 84) hb3
  have hne : b3 ≠ b1 := fun e => by rw [e, set_eq] at hb3; cases hb3
  refine ⟨b3, b1, rfl, hne, fun b o h => hle3 b o (hle1 b o h), .nil, le_none hle1 hb3, hb1, ⟨Sl.nil, set_eq _ _ _, .inl ⟨rfl, rfl⟩, fun a ha => by cases ha⟩, _, hle3 _ _ (set_eq _ _ _), ?_⟩
  have : mpS [] = fun _ => none := by
    funext x
    simp [mpS, brs]
  rw [this]
  exact MapO.empty encB

/-! branch -/
instance (S : List Tr) (t : Tr) : Decidable (inn S t) := inferInstanceAs (Decidable (t.isL = true ∨ t ∈ S))
def addT (S : List Tr) (t : Tr) : List Tr := if inn S t then S else S ++ [t]
theorem addT_vis {S : List Tr} (hS : Cl S) {v : Nat} {l h : Tr} (hk : v < 64 ∧ v < l.top ∧ v < h.top ∧ l.ok ∧ h.ok) : addT (vis h (vis l S)) (mk v l h) = vis (mk v l h) S := by
  obtain ⟨h0, h1, h2, h3, h4⟩ := hk
  obtain ⟨a1, a2, X, a3, a4⟩ := vis_facts l S h3 hS
  obtain ⟨b1, b2, Y, b3, b4⟩ := vis_facts h (vis l S) h4 a1
  unfold mk
  split
  · rename_i e
    subst e
    rw [vis_inn a2]
    unfold addT
    rw [if_pos a2]
  · rename_i e
    conv => rhs; unfold vis
    unfold addT
    by_cases hm : node v l h ∈ S
    · have hl := (hS.inn_kids (.inr hm)).1
      have hh := (hS.inn_kids (.inr hm)).2
      rw [if_pos hm, vis_inn hl, vis_inn hh, if_pos (.inr hm)]
    · rw [if_neg hm, if_neg]
      rintro (hc | hc)
      · cases hc
      · rw [b3, a3] at hc
        rcases List.mem_append.1 hc with hc | hc
        · rcases List.mem_append.1 hc with hc | hc
          · exact hm hc
          · have := a4 _ hc; simp only [sz] at this; omega
        · have := b4 _ hc; simp only [sz] at this; omega
theorem idxOf_map {α β : Type} [DecidableEq α] [DecidableEq β] (f : α → β) (x : α) : ∀ (l : List α), x ∈ l → (∀ y ∈ l, f y = f x → y = x) → (l.map f).idxOf (f x) = l.idxOf x
  | [], h, _ => by cases h
  | a :: l, h, hi => by
    simp only [List.map_cons, List.idxOf_cons]
    by_cases ha : a = x
    · subst ha
      simp
    · have h1 : ¬ f a = f x := fun e => ha (hi a (by simp) e)
      have h2 : (a == x) = false := by simpa using ha
      have h3 : (f a == f x) = false := by simpa using h1
      rw [h2, h3]
      simp only [cond_false]
      rw [idxOf_map f x l (by simpa [Ne.symm ha] using h) (fun y hy => hi y (by simp [hy]))]
theorem mem_brs {S : List Tr} (hS : Cl S) {v : Nat} {l h : Tr} (hl : inn S l) (hh : inn S h) : br S (node v l h) ∈ brs S ↔ node v l h ∈ S := by
  constructor
  · intro hm
    obtain ⟨u, hu, he⟩ := List.mem_map.1 hm
    obtain ⟨_, v', l', h', rfl, hl', hh'⟩ := hS.mem u hu
    simp only [br, Br.mk.injEq] at he
    obtain ⟨e1, e2, e3⟩ := he
    rw [← num_inj hl' hl (by omega), ← num_inj hh' hh (by omega), ← show v' = v by omega]
    exact hu
  · intro hm
    exact List.mem_map_of_mem hm
theorem idxOf_brs {S : List Tr} (hS : Cl S) {v : Nat} {l h : Tr} (hm : node v l h ∈ S) : (brs S).idxOf (br S (node v l h)) + 2 = num S (node v l h) := by
  unfold brs
  rw [idxOf_map _ _ _ hm (fun y hy e => br_inj hS hy hm e)]
  rfl
theorem mpS_snoc {S : List Tr} (hS : Cl S) {v : Nat} {l h : Tr} (hl : inn S l) (hh : inn S h) (hn : node v l h ∉ S) :
    mpS (S ++ [node v l h]) = fun x => if x = br S (node v l h) then some (vi (((S.length + 2 : Nat) : Int))) else mpS S x := by
  have hb : br S (node v l h) ∉ brs S := fun hm => hn ((mem_brs hS hl hh).1 hm)
  have hbr : br S (node v l h) = ⟨(v : Int), (num S l : Int), (num S h : Int)⟩ := rfl
  funext x
  unfold mpS
  rw [brs_snoc hS hl hh, ← hbr]
  by_cases hx : x = br S (node v l h)
  · subst hx
    rw [if_pos rfl, if_pos (by simp), List.idxOf_append, if_neg hb]
    simp [brs_length]
  · rw [if_neg hx]
    by_cases hm : x ∈ brs S
    · rw [if_pos hm, if_pos (by simp [hm]), List.idxOf_append, if_pos hm]
    · rw [if_neg hm, if_neg (by simp [hm, hx])]

section
variable {F0 F : PH} {b m : Nat} {S : List Tr}
theorem branch_spec (hd : BD F0 F b m S) {v : Nat} {l h : Tr} (hl : inn S l) (hh : inn S h) (hv : v < 64 ∧ v < l.top ∧ v < h.top) (hf : Fit (S.length + 2)) :
    Spec prog 99 #[.pointer (some ⟨b, 0, none⟩), vi v, vi (num S l), vi (num S h)] F fun r F' => r = vi (num (addT S (mk v l h)) (mk v l h)) ∧ BD F0 F' b m (addT S (mk v l h)) := by
  have hd' := hd
  obtain ⟨hle, hS, hb0, hm0, ⟨s, hb, ho, hs0⟩, ob, hm, hmp⟩ := hd
  refine c99 ?_
  unfold b99
  refine ⟨fun he => ?_, fun he => ?_⟩
  · obtain rfl := num_inj hl hh (by omega)
    have e : mk v l l = l := by simp [mk]
    rw [e]
    have e2 : addT S l = S := by unfold addT; rw [if_pos hl]
    rw [e2]
    exact ⟨rfl, hd'⟩
  have hlh : l ≠ h := fun e => he (by rw [e])
  have emk : mk v l h = node v l h := by simp [mk, hlh]
  have hok : (node v l h).ok := ⟨hv.1, hv.2.1, hv.2.2, hlh, hS.inn_ok hl, hS.inn_ok hh⟩
  rw [emk]
  intro b9 hb9
  refine atI ?_
  refine stW (set_eq _ _ _) rfl rfl (st_barr ⟨v, num S l, num S h⟩) ?_
  rw [set_twice]
  have hle9 := le_set_fresh (.cells (barr ⟨v, num S l, num S h⟩) 72) hb9
  have h9 := set_eq F b9 (.cells (barr ⟨v, num S l, num S h⟩) 72)
  have hbr : br S (node v l h) = ⟨(v : Int), (num S l : Int), (num S h : Int)⟩ := rfl
  rw [← hbr] at h9 hle9
  show ∃ b0a_ : Addr, _
  rw [show (#[vi v, vi (num S l), vi (num S h)] : Array Value) = barr (br S (node v l h)) from rfl]
  replace hb := hle9 _ _ hb
  replace hm := hle9 _ _ hm
  have hle1 : F0.le (F.set b9 (.cells (barr (br S (node v l h))) 72)) := fun x o hx => hle9 x o (hle x o hx)
  have ne9 : ∀ a, s.base = some a → a.block ≠ b9 := fun a ha e => by
    obtain ⟨cur, hcur⟩ := ho.elem ha
    rw [e, hb9] at hcur
    cases hcur
  have hbase : ∀ a, s.base = some a → (∃ cur, (F.set b9 (.cells (barr (br S (node v l h))) 72)) a.block = some (.cells cur 72 (0, 0))) := fun a ha => by
    obtain ⟨cur, hcur⟩ := ho.elem ha
    exact ⟨cur, hle9 _ _ hcur⟩
  replace ho : OwnS (F.set b9 (.cells (barr (br S (node v l h))) 72)) 72 3 s (bflat (brs S)) := ho.keep fun a ha => by
    obtain ⟨cur, hcur⟩ := ho.elem ha
    rw [hcur, hle9 _ _ hcur]
  generalize F.set b9 (.cells (barr (br S (node v l h))) 72) = F1 at *
  refine ⟨_, rfl, some m, by simp only [add_mk]; rw [cell_eq hb]; rfl, barr (br S (node v l h)), rfl, row_whole h9, ?_⟩
  have hlk := rdo_lookup (F := F1) mtB hm hmp (br S (node v l h)) true
  by_cases hmem : node v l h ∈ S
  · have hx := (mem_brs hS hl hh).2 hmem
    have e1 : mpS S (br S (node v l h)) = some (vi (num S (node v l h))) := by
      unfold mpS
      rw [if_pos hx, idxOf_brs hS hmem]
    rw [e1] at hlk
    refine ⟨_, _, hlk, fun hc => (by cases hc), fun _ => ?_⟩
    have e2 : addT S (node v l h) = S := by unfold addT; rw [if_pos (.inr hmem)]
    rw [e2]
    exact ⟨rfl, hle1, hS, hb0, hm0, ⟨s, hb, ho, hs0⟩, ob, hm, hmp⟩
  · have hx : br S (node v l h) ∉ brs S := fun hx => hmem ((mem_brs hS hl hh).1 hx)
    have e1 : mpS S (br S (node v l h)) = none := by
      unfold mpS
      rw [if_neg hx]
    rw [e1] at hlk
    have e2 : addT S (node v l h) = S ++ [node v l h] := by
      unfold addT
      rw [if_neg]
      rintro (hc | hc)
      · cases hc
      · exact hmem hc
    rw [e2]
    have hS' : Cl (S ++ [node v l h]) := .snoc hS hl hh hok hmem
    refine ⟨_, _, hlk, fun _ => ?_, fun hc => (by cases hc)⟩
    refine ⟨s, by rw [cell_eq hb]; rfl, barr (br S (node v l h)), rfl, row_whole h9, rfl, fun b37 hb37 => ?_⟩
    refine atI ?_
    have hle37 := le_set_fresh (.cells (barr (br S (node v l h))) 72) hb37
    have h37 := set_eq F1 b37 (.cells (barr (br S (node v l h))) 72)
    replace hb := hle37 _ _ hb
    replace hm := hle37 _ _ hm
    replace h9 := hle37 _ _ h9
    have hle2 : F0.le (F1.set b37 (.cells (barr (br S (node v l h))) 72)) := fun x o hx => hle37 x o (hle1 x o hx)
    replace ho : OwnS (F1.set b37 (.cells (barr (br S (node v l h))) 72)) 72 3 s (bflat (brs S)) := ho.keep fun a ha => by
      obtain ⟨cur, hcur⟩ := hbase a ha
      rw [hcur, hle37 _ _ hcur]
    generalize F1.set b37 (.cells (barr (br S (node v l h))) 72) = F2 at *
    have hlen := ho.rd.blen
    rw [brs_length] at hlen
    refine own_app underlying26 sz72 zr72 rfl (by decide) hle2 ho hs0 (x := ⟨some ⟨b37, 0, none⟩, 1, 1⟩) (news := bcells (br S (node v l h))) (RdS.new h37 rfl rfl (Nat.le_refl _)) (fun x hx => st_bflat [br S (node v l h)] x (by simpa [bflat] using hx)) (by simp only [hlen]; omega) (by simp only [hlen]; omega) ?_
    intro s' F3 hle3 ho3 hlen3 hs3 hk3 hfr3
    have neB : ∀ a, s.base = some a → a.block ≠ b := fun a ha e => by
      obtain ⟨cur, hcur⟩ := ho.elem ha
      rw [e, hb] at hcur
      cases hcur
    have neM : ∀ a, s.base = some a → a.block ≠ m := fun a ha e => by
      obtain ⟨cur, hcur⟩ := ho.elem ha
      obtain ⟨es, c, L, rfl, _⟩ := hmp
      rw [e, hm] at hcur
      cases hcur
    replace hb := hk3 _ _ hb (fun ⟨a, ha, e⟩ => neB a ha e)
    replace hm := hk3 _ _ hm (fun ⟨a, ha, e⟩ => neM a ha e)
    replace h9 := hk3 _ _ h9 (fun ⟨a, ha, e⟩ => ne9 a ha e)
    refine ⟨s', rfl, ?_⟩
    refine st1 hb (by simp) ?_
    have hbm : b ≠ m := fun e => by
      obtain ⟨es, c, L, rfl, _⟩ := hmp
      rw [e, hm] at hb
      cases hb
    have h9b : b9 ≠ b := fun e => by rw [e, hb] at h9; cases h9
    have hsb : ∀ a, s'.base = some a → a.block ≠ b ∧ a.block ≠ m := fun a ha => by
      obtain ⟨cur, hcur⟩ := ho3.elem ha
      refine ⟨fun e => ?_, fun e => ?_⟩
      · rw [e, hb] at hcur; cases hcur
      · obtain ⟨es, c, L, rfl, _⟩ := hmp
        rw [e, hm] at hcur; cases hcur
    have hle4 : F0.le (F3.set b (.cells (#[s'.v, Value.map (some m)] : Array Value) 84)) := le_set_new hle3 hb0
    have hb4 := set_eq F3 b (.cells (#[s'.v, Value.map (some m)] : Array Value) 84)
    have hm4 : (F3.set b (.cells (#[s'.v, Value.map (some m)] : Array Value) 84)) m = some ob := by rw [set_ne _ _ hbm.symm]; exact hm
    have h94 : (F3.set b (.cells (#[s'.v, Value.map (some m)] : Array Value) 84)) b9 = some (.cells (barr (br S (node v l h))) 72) := by rw [set_ne _ _ h9b]; exact h9
    have ho4 : OwnS (F3.set b (.cells (#[s'.v, Value.map (some m)] : Array Value) 84)) 72 3 s' (bflat (brs S) ++ bcells (br S (node v l h))) := ho3.keep fun a ha => set_ne _ _ (hsb a ha).1
    rw [show (#[s.v, Value.map (some m)].setIfInBounds 0 s'.v : Array Value) = #[s'.v, Value.map (some m)] from rfl]
    generalize F3.set b (.cells (#[s'.v, Value.map (some m)] : Array Value) 84) = F4 at *
    have hlen4 : s'.len = S.length + 1 := by rw [hlen3, hlen]
    refine ⟨s', by rw [cell_eq hb4]; rfl, some m, by simp only [add_mk]; rw [cell_eq hb4]; rfl, barr (br S (node v l h)), rfl, row_whole h94, ?_⟩
    refine runs_mapUpdate mtB hm4 hmp (br S (node v l h)) _ fun o' ho' => ?_
    have hw : IntKind.i64.wrap ((s'.len : Int) + 1) = ((S.length + 2 : Nat) : Int) := by rw [hlen4, w64_eq (by omega) (by omega)]; omega
    rw [hw] at ho' ⊢
    refine ⟨?_, le_set_new hle4 hm0, hS', hb0, hm0, ⟨s', by rw [set_ne _ _ hbm]; exact hb4, ?_, hs3⟩, o', set_eq _ _ _, by rw [mpS_snoc hS hl hh hmem]; exact ho'⟩
    · have hl2 := num_of_get hS' (k := S.length) (t := node v l h) (by simp)
      rw [hl2]
    · have e3 : bflat (brs (S ++ [node v l h])) = bflat (brs S) ++ bcells (br S (node v l h)) := by
        rw [brs_snoc hS hl hh, ← hbr, bflat_append]
        simp [bflat]
      rw [e3]
      exact ho4.keep fun a ha => set_ne _ _ (hsb a ha).2
end
theorem nodup_length {α : Type} [DecidableEq α] : ∀ (l m : List α), l.Nodup → (∀ x ∈ l, x ∈ m) → l.length ≤ m.length
  | [], _, _, _ => Nat.zero_le _
  | a :: l, m, hn, hs => by
    rw [List.nodup_cons] at hn
    have ha := hs a (by simp)
    have h := nodup_length l (m.erase a) hn.2 (fun x hx => (List.mem_erase_of_ne (by rintro rfl; exact hn.1 hx)).2 (hs x (by simp [hx])))
    rw [List.length_erase_of_mem ha] at h
    have := List.length_pos_of_mem ha
    simp only [List.length_cons]
    omega

theorem cb95 : callableB prog 95 = true := by kernel_rfl

/-- The numbers that the walk has given. -/
def nmS (S0 S : List Tr) (n : Int) : Option Value :=
  if 0 ≤ n ∧ n ≤ (S0.length : Int) + 1 ∧ inn S (tr S0 n.toNat) then some (vi (num S (tr S0 n.toNat) : Int)) else none
theorem nmS_hit {S0 S : List Tr} (h0 : Cl S0) {t : Tr} (ht : inn S0 t) (hi : inn S t) : nmS S0 S (num S0 t) = some (vi (num S t)) := by
  have h1 := num_le ht
  unfold nmS
  rw [Int.toNat_natCast, tr_num h0 ht, if_pos ⟨by omega, by omega, hi⟩]
theorem nmS_miss {S0 S : List Tr} (h0 : Cl S0) {t : Tr} (ht : inn S0 t) (hi : ¬ inn S t) : nmS S0 S (num S0 t) = none := by
  unfold nmS
  rw [Int.toNat_natCast, tr_num h0 ht, if_neg (fun h => hi h.2.2)]
theorem nmS_snoc {S0 S : List Tr} (h0 : Cl S0) (hS : Cl S) {t : Tr} (ht : inn S0 t) (hS' : Cl (S ++ [t])) :
    nmS S0 (S ++ [t]) = fun n => if n = (num S0 t : Int) then some (vi (((S.length + 2 : Nat)) : Int)) else nmS S0 S n := by
  funext n
  by_cases hn : n = (num S0 t : Int)
  · subst hn
    rw [if_pos rfl, nmS_hit h0 ht (.inr (by simp)), num_of_get hS' (k := S.length) (by simp)]
  · rw [if_neg hn]
    unfold nmS
    by_cases hr : 0 ≤ n ∧ n ≤ (S0.length : Int) + 1
    · have hne : tr S0 n.toNat ≠ t := fun e => by
        have := num_tr h0 (n := n.toNat) (by omega)
        rw [e] at this
        omega
      by_cases hi : inn S (tr S0 n.toNat)
      · rw [if_pos ⟨hr.1, hr.2, inn_append hi⟩, if_pos ⟨hr.1, hr.2, hi⟩, num_append hi]
      · rw [if_neg, if_neg (fun h => hi h.2.2)]
        rintro ⟨_, _, h | h⟩
        · exact hi (.inl h)
        · rcases List.mem_append.1 h with h | h
          · exact hi (.inr h)
          · exact hne (List.mem_singleton.1 h)
    · rw [if_neg (fun h => hr ⟨h.1, h.2.1⟩), if_neg (fun h => hr ⟨h.1, h.2.1⟩)]
theorem nmS_nil {S0 : List Tr} (h0 : Cl S0) : nmS S0 [] = fun n => if n = 1 then some (vi 1) else if n = 0 then some (vi 0) else none := by
  funext n
  unfold nmS
  by_cases h1 : n = 1
  · subst h1
    have e : tr S0 (Int.toNat 1) = leaf true := rfl
    rw [if_pos rfl, e, if_pos ⟨by omega, by omega, inn_leaf _ _⟩]
    rfl
  · rw [if_neg h1]
    by_cases h2 : n = 0
    · subst h2
      have e : tr S0 (Int.toNat 0) = leaf false := rfl
      rw [if_pos rfl, e, if_pos ⟨by omega, by omega, inn_leaf _ _⟩]
      rfl
    · rw [if_neg h2, if_neg]
      rintro ⟨a, b, c | c⟩
      · have h3 : inn S0 (tr S0 n.toNat) := tr_inn (by omega)
        have h4 := num_tr h0 (n := n.toNat) (by omega)
        generalize tr S0 n.toNat = t at *
        cases t with
        | leaf x => have := num_leaf_le S0 x; omega
        | node _ _ _ => cases c
      · cases c

/-- The fixed part of the memory of a walk. -/
structure VE (F0 : PH) (b6 b2 b7 b5 M b : Nat) (ns : Sl) (S0 : List Tr) : Prop where
  c6 : F0.cell ⟨b6, 0, none⟩ = some (.map (some M))
  c2 : F0.cell ⟨b2, 0, none⟩ = some (.pointer (some ⟨b, 0, none⟩))
  c7 : F0.cell ⟨b7, 0, none⟩ = some (.func (.func 95) #[] #[.pointer (some ⟨b6, 0, none⟩), .pointer (some ⟨b2, 0, none⟩), .pointer (some ⟨b7, 0, none⟩), .pointer (some ⟨b5, 0, none⟩)])
  cb : F0.cell ⟨b, 0, none⟩ = some ns.v
  rd : RdS F0 ns 3 (bflat (brs S0))
theorem VE.le {F0 G : PH} {b6 b2 b7 b5 M b : Nat} {ns : Sl} {S0 : List Tr} (h : VE F0 b6 b2 b7 b5 M b ns S0) (hl : F0.le G) : VE G b6 b2 b7 b5 M b ns S0 :=
  ⟨le_cell hl h.c6, le_cell hl h.c2, le_cell hl h.c7, le_cell hl h.cb, h.rd.le hl⟩
/-- Its changing part. -/
structure VS (F0 F : PH) (b5 M : Nat) (S0 S : List Tr) : Prop where
  le : F0.le F
  cl : Cl S
  sub : ∀ x ∈ S, x ∈ S0
  n5 : F0 b5 = none
  nM : F0 M = none
  ex : ∃ (s : Sl), F b5 = some (.cells #[s.v, vi 0] 28) ∧ OwnS F 72 3 s (bflat (brs S)) ∧ ∀ a, s.base = some a → F0 a.block = none
  map : ∃ o, F M = some o ∧ MapO encI (nmS S0 S) o

theorem OwnS.upto {F G : PH} {e size : Nat} {s : Sl} {vs : List Value} (h : OwnS F e size s vs) (hl : F.le G) : OwnS G e size s vs := by
  rcases h with h | ⟨b, cur, h1, h2, h3⟩
  · exact .inl h
  · exact .inr ⟨b, cur, h1, hl _ _ h2, h3⟩

theorem visit_spec {b6 b2 b7 b5 M b : Nat} {ns : Sl} {S0 : List Tr} (h0 : Cl S0) (hf : Fit (S0.length + 4)) : ∀ (t : Tr), inn S0 t → ∀ (F0 F : PH) (S : List Tr), VE F0 b6 b2 b7 b5 M b ns S0 → VS F0 F b5 M S0 S →
    Spec prog 95 #[vi (num S0 t), .pointer (some ⟨b6, 0, none⟩), .pointer (some ⟨b2, 0, none⟩), .pointer (some ⟨b7, 0, none⟩), .pointer (some ⟨b5, 0, none⟩)] F
      fun r F' => r = vi (num (vis t S) t) ∧ VS F0 F' b5 M S0 (vis t S) := by
  intro t
  induction t with
  | leaf x =>
    intro ht F0 F S he hs
    have hs' := hs
    obtain ⟨hle, hS, hsub, hn5, hnM, ⟨s, h5, ho, hsb⟩, o, hM, hmo⟩ := hs
    refine c95 ?_
    unfold b95
    have hlk := rdo_lookup (F := F) mtN hM hmo (num S0 (leaf x)) true
    rw [nmS_hit h0 ht (inn_leaf _ _)] at hlk
    exact ⟨_, rfl, _, le_cell hle he.c6, _, _, hlk, fun _ => ⟨rfl, hs'⟩, fun hc => by cases hc⟩
  | node v l h ihl ihh =>
    intro ht F0 F S he hs
    have hs' := hs
    obtain ⟨hle, hS, hsub, hn5, hnM, ⟨s, h5, ho, hsb⟩, o, hM, hmo⟩ := hs
    have htm := inn_mem ht rfl
    obtain ⟨hil, hih⟩ := h0.inn_kids ht
    have hok := h0.inn_ok ht
    refine c95 ?_
    unfold b95
    have hlk := rdo_lookup (F := F) mtN hM hmo (num S0 (node v l h)) true
    by_cases hin : node v l h ∈ S
    · rw [nmS_hit h0 ht (.inr hin)] at hlk
      have e : vis (node v l h) S = S := vis_inn (.inr hin)
      rw [e]
      exact ⟨_, rfl, _, le_cell hle he.c6, _, _, hlk, fun _ => ⟨rfl, hs'⟩, fun hc => by cases hc⟩
    · have hnin : ¬ inn S (node v l h) := by
        rintro (hc | hc)
        · cases hc
        · exact hin hc
      rw [nmS_miss h0 ht hnin] at hlk
      have hw := w64m2 (n := num S0 (node v l h)) (by have := num_le ht; omega) (num_ge rfl)
      have hnl := num_le ht
      have hng := num_ge (S := S0) (t := node v l h) rfl
      obtain ⟨a, ha, hrow, _⟩ := rdb (he.rd.le hle) (brs_get (num_get htm rfl))
      have hns := he.rd.blen
      rw [brs_length] at hns
      refine ⟨_, rfl, _, le_cell hle he.c6, _, _, hlk, fun hc => (by cases hc), fun _ => ?_⟩
      refine ⟨_, rfl, _, le_cell hle he.c2, _, rfl, ns, le_cell hle he.cb, a, ha, by rw [hw]; omega, by rw [hw]; omega, barr (br S0 (node v l h)), rfl, by rw [hw]; exact hrow, ?_⟩
      intro b9 hb9
      refine atI ?_
      refine stW (set_eq _ _ _) rfl rfl (st_barr _) ?_
      rw [set_twice]
      have h90 : F0 b9 = none := le_none hle hb9
      -- the memory with the local variable
      have he9 : VE (F0.set b9 (.cells (barr (br S0 (node v l h))) 72)) b6 b2 b7 b5 M b ns S0 := he.le (le_set_fresh _ h90)
      have ne95 : b5 ≠ b9 := ne_of_fresh hb9 h5
      have ne9M : M ≠ b9 := ne_of_fresh hb9 hM
      have hle9 : (F0.set b9 (.cells (barr (br S0 (node v l h))) 72)).le (F.set b9 (.cells (barr (br S0 (node v l h))) 72)) := fun x ob hx => by
        by_cases hxb : x = b9
        · subst hxb; rw [set_eq] at hx ⊢; exact hx
        · rw [set_ne _ _ hxb] at hx ⊢; exact hle _ _ hx
      have hs9 : VS (F0.set b9 (.cells (barr (br S0 (node v l h))) 72)) (F.set b9 (.cells (barr (br S0 (node v l h))) 72)) b5 M S0 S := by
        refine ⟨hle9, hS, hsub, by rw [set_ne _ _ ne95]; exact hn5, by rw [set_ne _ _ ne9M]; exact hnM, ⟨s, by rw [set_ne _ _ ne95]; exact h5, ho.upto (le_set_fresh _ hb9), fun a ha => ?_⟩, o, by rw [set_ne _ _ ne9M]; exact hM, hmo⟩
        obtain ⟨cur, hcur⟩ := ho.elem ha
        rw [set_ne _ _ (ne_of_fresh hb9 hcur)]
        exact hsb a ha
      have hle0 : F0.le (F0.set b9 (.cells (barr (br S0 (node v l h))) 72)) := le_set_fresh _ h90
      have hc9 : (F0.set b9 (.cells (barr (br S0 (node v l h))) 72)) b9 = some (.cells (barr (br S0 (node v l h))) 72) := set_eq _ _ _
      generalize F0.set b9 (.cells (barr (br S0 (node v l h))) 72) = G0 at *
      generalize F.set b9 (.cells (barr (br S0 (node v l h))) 72) = F1 at *
      refine ⟨_, rfl, _, le_cell hs9.le he9.c7, _, by rw [cell_eq (hs9.le _ _ hc9)]; rfl, _, _, _, rfl, cb95, ?_⟩
      refine (ihl hil G0 F1 S he9 hs9).mono ?_
      rintro _ F2 ⟨rfl, hs2⟩
      refine ⟨_, rfl, _, le_cell hs2.le he9.c7, _, by rw [cell_eq (hs2.le _ _ hc9)]; rfl, _, _, _, rfl, cb95, ?_⟩
      refine (ihh hih G0 F2 _ he9 hs2).mono ?_
      rintro _ F3 ⟨rfl, hs3⟩
      have hs3' := hs3
      obtain ⟨hle3, hS3, hsub3, hn53, hnM3, ⟨s3, h53, ho3, hsb3⟩, o3, hM3, hmo3⟩ := hs3
      obtain ⟨fl1, fl2, X, fl3, fl4⟩ := vis_facts l S hok.2.2.2.2.1 hS
      obtain ⟨fh1, fh2, Y, fh3, fh4⟩ := vis_facts h (vis l S) hok.2.2.2.2.2 fl1
      have hnl' : num (vis l S) l = num (vis h (vis l S)) l := by rw [fh3, num_append fl2]
      have evis : vis (node v l h) S = vis h (vis l S) ++ [node v l h] := by
        conv => lhs; unfold vis
        rw [if_neg hin]
      obtain ⟨hSv, _, _⟩ := vis_facts (node v l h) S hok hS
      rw [evis] at hSv ⊢
      rw [hnl']
      have hil3 : inn (vis h (vis l S)) l := by rw [fh3]; exact inn_append fl2
      generalize vis h (vis l S) = T at *
      refine ⟨_, rfl, _, rfl, s3, by rw [cell_eq h53]; rfl, _, by rw [cell_eq (hle3 _ _ hc9)]; rfl, rfl, fun b43 hb43 => ?_⟩
      refine atI ?_
      have hb430 : G0 b43 = none := le_none hle3 hb43
      have hTl : T.length ≤ S0.length := nodup_length T S0 hS3.nodup hsub3
      have hlen := ho3.rd.blen
      rw [brs_length] at hlen
      have ex : (#[vi (v : Int), vi (num T l : Int), vi (num T h : Int)] : Array Value) = barr ⟨(v : Int), (num T l : Int), (num T h : Int)⟩ := rfl
      have hle43 := le_set_fresh (.cells (barr ⟨(v : Int), (num T l : Int), (num T h : Int)⟩) 72) hb43
      have h43 := set_eq F3 b43 (.cells (barr ⟨(v : Int), (num T l : Int), (num T h : Int)⟩) 72)
      show runs prog _ (F3.set b43 (.cells (barr ⟨(v : Int), (num T l : Int), (num T h : Int)⟩) 72)) _
      replace hle3 : G0.le (F3.set b43 (.cells (barr ⟨(v : Int), (num T l : Int), (num T h : Int)⟩) 72)) := fun x ob hx => hle43 _ _ (hle3 _ _ hx)
      replace ho3 := ho3.upto hle43
      replace h53 := hle43 _ _ h53
      replace hM3 := hle43 _ _ hM3
      generalize F3.set b43 (.cells (barr ⟨(v : Int), (num T l : Int), (num T h : Int)⟩) 72) = F4 at *
      refine own_app underlying26 sz72 zr72 rfl (by decide) hle3 ho3 hsb3 (x := ⟨some ⟨b43, 0, none⟩, 1, 1⟩) (news := bcells ⟨(v : Int), (num T l : Int), (num T h : Int)⟩) (RdS.new h43 rfl rfl (Nat.le_refl _))
        (fun x hx => st_bflat [⟨(v : Int), (num T l : Int), (num T h : Int)⟩] x (by simpa [bflat] using hx)) (by simp only [hlen]; omega) (by simp only [hlen]; omega) ?_
      intro s5 F5 hle5 ho5 hlen5 hsb5 hk5 _
      have ne5 : ∀ a, s3.base = some a → a.block ≠ b5 := fun a ha e => by
        obtain ⟨cur, hcur⟩ := ho3.elem ha
        rw [e, h53] at hcur
        cases hcur
      have neM : ∀ a, s3.base = some a → a.block ≠ M := fun a ha e => by
        obtain ⟨cur, hcur⟩ := ho3.elem ha
        obtain ⟨es, c, L, rfl, _⟩ := hmo3
        rw [e, hM3] at hcur
        cases hcur
      replace h53 := hk5 _ _ h53 (fun ⟨a, ha, e⟩ => ne5 a ha e)
      replace hM3 := hk5 _ _ hM3 (fun ⟨a, ha, e⟩ => neM a ha e)
      have n5M : b5 ≠ M := fun e => by
        obtain ⟨es, c, L, rfl, _⟩ := hmo3
        rw [e, hM3] at h53
        cases h53
      have hsb6 : ∀ a, s5.base = some a → a.block ≠ b5 ∧ a.block ≠ M := fun a ha => by
        obtain ⟨cur, hcur⟩ := ho5.elem ha
        refine ⟨fun e => ?_, fun e => ?_⟩
        · rw [e, h53] at hcur; cases hcur
        · obtain ⟨es, c, L, rfl, _⟩ := hmo3
          rw [e, hM3] at hcur; cases hcur
      refine ⟨s5, rfl, ?_⟩
      refine st1 h53 (by simp) ?_
      rw [show (#[s3.v, vi 0].setIfInBounds 0 s5.v : Array Value) = #[s5.v, vi 0] from rfl]
      have hle6 : G0.le (F5.set b5 (.cells #[s5.v, vi 0] 28)) := le_set_new hle5 hn53
      have h56 := set_eq F5 b5 (.cells #[s5.v, vi 0] 28)
      have hM6 : (F5.set b5 (.cells #[s5.v, vi 0] 28)) M = some o3 := by rw [set_ne _ _ n5M.symm]; exact hM3
      have ho6 : OwnS (F5.set b5 (.cells #[s5.v, vi 0] 28)) 72 3 s5 _ := ho5.keep fun a ha => set_ne _ _ (hsb6 a ha).1
      generalize F5.set b5 (.cells #[s5.v, vi 0] 28) = F6 at *
      have hlen6 : s5.len = T.length + 1 := by rw [hlen5, hlen]
      have hw6 : IntKind.i64.wrap ((s5.len : Int) + 1) = ((T.length + 2 : Nat) : Int) := by rw [hlen6, w64_eq (by omega) (by omega)]; omega
      refine ⟨_, le_cell hle6 he9.c6, s5, by rw [cell_eq h56]; rfl, ?_⟩
      rw [hw6]
      refine runs_mapUpdate mtN hM6 hmo3 (num S0 (node v l h) : Int) _ fun o' ho' => ?_
      rw [← nmS_snoc h0 hS3 ht hSv] at ho'
      have hle7 : G0.le (F6.set M o') := le_set_new hle6 hnM3
      have hlk7 := rdo_lookup (F := F6.set M o') mtN (set_eq F6 M o') ho' (num S0 (node v l h)) false
      rw [nmS_hit h0 ht (.inr (by simp))] at hlk7
      refine ⟨_, le_cell hle7 he9.c6, _, hlk7, rfl, fun x ob hx => hle7 _ _ (hle0 _ _ hx), hSv, fun x hx => ?_, hn5, hnM, ⟨s5, by rw [set_ne _ _ n5M]; exact h56, ?_, fun a ha => le_none hle0 (hsb5 a ha)⟩, o', set_eq _ _ _, ho'⟩
      · rcases List.mem_append.1 hx with hx | hx
        · exact hsub3 x hx
        · rw [List.mem_singleton.1 hx]; exact htm
      · have e3 : bflat (brs (T ++ [node v l h])) = bflat (brs T) ++ bcells ⟨(v : Int), (num T l : Int), (num T h : Int)⟩ := by
          rw [brs_snoc hS3 hil3 fh2, bflat_append]
          simp [bflat]
        rw [e3]
        exact ho6.keep fun a ha => set_ne _ _ (hsb6 a ha).2
/-- F without two blocks. -/
def del2 (F : PH) (a b : Nat) : PH := fun x => if x = a ∨ x = b then none else F x
theorem del2_le (F : PH) (a b : Nat) : (del2 F a b).le F := fun x o h => by
  unfold del2 at h
  split at h
  · cases h
  · exact h
theorem del2_of {F : PH} {a b x : Nat} (h1 : x ≠ a) (h2 : x ≠ b) : del2 F a b x = F x := by simp [del2, h1, h2]
theorem del2_1 (F : PH) (a b : Nat) : del2 F a b a = none := by simp [del2]
theorem del2_2 (F : PH) (a b : Nat) : del2 F a b b = none := by simp [del2]
theorem le_del2 {F G : PH} {a b : Nat} (h : F.le G) (ha : F a = none) (hb : F b = none) : F.le (del2 G a b) := fun x o hx => by
  have h1 : x ≠ a := fun e => by rw [e, ha] at hx; cases hx
  have h2 : x ≠ b := fun e => by rw [e, hb] at hx; cases hx
  rw [del2_of h1 h2]
  exact h _ _ hx
theorem PH.le.trans {F G H : PH} (h : F.le G) (k : G.le H) : F.le H := fun b o hx => k _ _ (h _ _ hx)

section
variable {F : PH} {b : Nat} {ns : Sl} {S0 : List Tr} {t : Tr}
theorem diagram_spec (hb : F.cell ⟨b, 0, none⟩ = some ns.v) (hr : RdS F ns 3 (bflat (brs S0))) (h0 : Cl S0) (ht : inn S0 t) (hf : Fit (S0.length + 4)) :
    Spec prog 64 #[.pointer (some ⟨b, 0, none⟩), vi (num S0 t)] F fun r F' => ∃ v, r = .agg v ∧ DV F' v (dia t) ∧ F.le F' := by
  have hok := h0.inn_ok ht
  refine c64 ?_
  unfold b64
  intro b2 hb2
  refine atI ?_
  have l2 := le_set_fresh (.cells #[Value.pointer (some ⟨b, 0, none⟩)] 81) hb2
  have h2 := set_eq F b2 (.cells #[Value.pointer (some ⟨b, 0, none⟩)] 81)
  generalize F.set b2 (.cells #[Value.pointer (some ⟨b, 0, none⟩)] 81) = F2 at *
  intro b4 hb4
  refine atI ?_
  have l4 := le_set_fresh (.cells #[Value.slice none 0 0, Value.int .i64 0] 28) hb4
  have h4 := set_eq F2 b4 (.cells #[Value.slice none 0 0, Value.int .i64 0] 28)
  replace h2 := l4 _ _ h2
  have f4 : F b4 = none := le_none l2 hb4
  replace l4 := l2.trans l4
  generalize F2.set b4 (.cells #[Value.slice none 0 0, Value.int .i64 0] 28) = F4 at *
  intro b5 hb5
  refine atI ?_
  have n25 : b2 ≠ b5 := ne_of_fresh hb5 h2
  have n45 : b4 ≠ b5 := ne_of_fresh hb5 h4
  refine stW (set_eq _ _ _) rfl rfl (fun x hx => ?_) ?_
  · simp only [List.mem_cons, List.not_mem_nil, or_false] at hx
    rcases hx with rfl | rfl
    · exact st_sl (x := Sl.nil)
    · exact st_int
  rw [set_twice]
  have l5 := le_set_fresh (.cells #[Value.slice none 0 0, Value.int .i64 0] 28) hb5
  have h5 := set_eq F4 b5 (.cells #[Value.slice none 0 0, Value.int .i64 0] 28)
  replace h2 := l5 _ _ h2
  replace h4 := l5 _ _ h4
  have f5 : F b5 = none := le_none l4 hb5
  replace l5 := l4.trans l5
  generalize F4.set b5 (.cells #[Value.slice none 0 0, Value.int .i64 0] 28) = F5 at *
  intro b9 hb9
  refine atI ?_
  have f9 : F b9 = none := le_none l5 hb9
  have n92 : b2 ≠ b9 := ne_of_fresh hb9 h2
  have n94 : b4 ≠ b9 := ne_of_fresh hb9 h4
  have n95 : b5 ≠ b9 := ne_of_fresh hb9 h5
  refine runs_mapUpdate mtN (set_eq _ _ _) (MapO.empty encI) 0 (vi 0) fun o1 ho1 => ?_
  rw [set_twice]
  refine runs_mapUpdate mtN (set_eq _ _ _) ho1 1 (vi 1) fun o2 ho2 => ?_
  rw [set_twice]
  have hn : nmS S0 [] = (fun k' => if k' = 1 then some (vi 1) else if k' = 0 then some (vi 0) else none) := nmS_nil h0
  rw [← hn] at ho2
  have l9 : F.le (F5.set b9 o2) := l5.trans (le_set_fresh o2 hb9)
  have h9 := set_eq F5 b9 o2
  replace h2 := le_set_fresh o2 hb9 _ _ h2
  replace h4 := le_set_fresh o2 hb9 _ _ h4
  replace h5 := le_set_fresh o2 hb9 _ _ h5
  generalize F5.set b9 o2 = F9 at *
  intro b6 hb6
  refine atI ?_
  refine st1 (set_eq _ _ _) (by simp) ?_
  rw [set_twice, show (#[Value.map none].setIfInBounds 0 (Value.map (some b9)) : Array Value) = #[Value.map (some b9)] from rfl]
  have n65 : b6 ≠ b5 := (ne_of_fresh hb6 h5).symm
  have n69 : b6 ≠ b9 := (ne_of_fresh hb6 h9).symm
  have hx := le_set_fresh (.cells #[Value.map (some b9)] 109) hb6
  have h6 := set_eq F9 b6 (.cells #[Value.map (some b9)] 109)
  have l6 : F.le (F9.set b6 (.cells #[Value.map (some b9)] 109)) := l9.trans hx
  replace h2 := hx _ _ h2
  replace h4 := hx _ _ h4
  replace h5 := hx _ _ h5
  replace h9 := hx _ _ h9
  clear hx
  generalize F9.set b6 (.cells #[Value.map (some b9)] 109) = F6 at *
  intro b7 hb7
  refine atI ?_
  refine st1 (set_eq _ _ _) (by simp) ?_
  rw [set_twice]
  generalize hfv : (Value.func (.func 95) #[] #[(Value.pointer (some (Addr.mk b6 0 none))), (Value.pointer (some (Addr.mk b2 0 none))), (Value.pointer (some (Addr.mk b7 0 none))), (Value.pointer (some (Addr.mk b5 0 none)))]) = fv
  rw [show (#[Value.nilFunc].setIfInBounds (Addr.mk b7 0 none).off fv : Array Value) = #[fv] from rfl]
  have n75 : b7 ≠ b5 := (ne_of_fresh hb7 h5).symm
  have n79 : b7 ≠ b9 := (ne_of_fresh hb7 h9).symm
  have hx := le_set_fresh (.cells #[fv] 94) hb7
  have h7 := set_eq F6 b7 (.cells #[fv] 94)
  have l7 : F.le (F6.set b7 (.cells #[fv] 94)) := l6.trans hx
  replace h2 := hx _ _ h2
  replace h4 := hx _ _ h4
  replace h5 := hx _ _ h5
  replace h9 := hx _ _ h9
  replace h6 := hx _ _ h6
  clear hx
  generalize F6.set b7 (.cells #[fv] 94) = F7 at *
  have lF : F.le (del2 F7 b5 b9) := le_del2 l7 f5 f9
  have g4 : (del2 F7 b5 b9) b4 = _ := (del2_of n45 n94).trans h4
  have he : VE (del2 F7 b5 b9) b6 b2 b7 b5 b9 b ns S0 := by
    refine ⟨?_, ?_, ?_, le_cell lF hb, hr.le lF⟩
    · rw [cell_eq ((del2_of n65 n69).trans h6)]; rfl
    · rw [cell_eq ((del2_of n25 n92).trans h2)]; rfl
    · rw [cell_eq ((del2_of n75 n79).trans h7), ← hfv]; rfl
  have hs : VS (del2 F7 b5 b9) F7 b5 b9 S0 [] := by
    refine ⟨del2_le _ _ _, .nil, fun x hx => (by cases hx), del2_1 _ _ _, del2_2 _ _ _, ⟨Sl.nil, h5, .inl ⟨rfl, rfl⟩, fun a ha => by cases ha⟩, o2, h9, ho2⟩
  refine ⟨_, by rw [cell_eq h7]; rfl, _, _, _, hfv.symm, cb95, ?_⟩
  refine (visit_spec h0 hf t ht _ _ _ he hs).mono ?_
  rintro _ G ⟨rfl, hs'⟩
  refine ⟨_, rfl, ?_⟩
  obtain ⟨gle, gcl, _, _, _, ⟨s, g5, go, gs⟩, _⟩ := hs'
  have ev : vis t [] = subs t := rfl
  rw [ev] at *
  refine st1 g5 (by simp) ?_
  rw [show (#[s.v, vi 0].setIfInBounds 1 (vi (num (subs t) t)) : Array Value) = #[s.v, vi (num (subs t) t)] from rfl]
  refine ⟨#[s.v, vi (num (subs t) t)], rfl, row_whole (set_eq _ _ _), ?_⟩
  have k4 : (G.set b5 (.cells #[s.v, vi (num (subs t) t)] 28)) b4 = some (.cells #[Value.slice none 0 0, Value.int .i64 0] 28) := by
    rw [set_ne _ _ n45]
    exact gle _ _ g4
  refine stW k4 rfl rfl (fun x hx => ?_) ?_
  · simp only [List.mem_cons, List.not_mem_nil, or_false] at hx
    rcases hx with rfl | rfl
    · exact st_sl
    · exact st_int
  refine ⟨#[s.v, vi (num (subs t) t)], rfl, row_whole (set_eq _ _ _), _, rfl, ⟨s, rfl, ?_⟩, ?_⟩
  · have hsb : ∀ a, s.base = some a → a.block ≠ b5 ∧ a.block ≠ b4 := fun a ha => by
      obtain ⟨cur, hcur⟩ := go.elem ha
      refine ⟨fun e => ?_, fun e => ?_⟩
      · rw [e, g5] at hcur; cases hcur
      · rw [e, gle _ _ g4] at hcur; cases hcur
    exact (go.keep fun a ha => by rw [set_ne _ _ (hsb a ha).2, set_ne _ _ (hsb a ha).1]).rd
  · exact le_set_new (le_set_new (lF.trans gle) f5) f4
end
end Go.Proofs.Ytafojmoeaneedaa
