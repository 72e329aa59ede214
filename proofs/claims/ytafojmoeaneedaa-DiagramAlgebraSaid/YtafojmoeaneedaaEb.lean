/-
  The keys of the program's maps: numbers, branches, pairs and triples of numbers; equality of branches.
-/
import Derived.Test.YtafojmoeaneedaaEa
namespace Go.Proofs.Ytafojmoeaneedaa
open Go Go.Proofs.Try Tr
set_option maxRecDepth 10000

theorem eq_int (d : Nat) (a b : Int) (F : PH) : rdo prog (Op.equalIn (d + 1) 3 (vi a) (vi b)) F (decide (a = b)) := by
  simp only [Op.equalIn, rdo_bind]
  refine ⟨_, (rdo_underlying underlying3 _).2 rfl, ?_⟩
  simp only [if_true, rdo_pure]
  by_cases h : a = b <;> simp [h]
theorem part_int (cs : Array Value) (off : Nat) (v : Value) (h : cs[off]? = some v) (F : PH) : rdo prog (part 3 cs off) F v := by
  unfold part
  simp only [rdo_bind]
  refine ⟨false, (rdo_isAgg underlying3 _).2 rfl, ?_⟩
  simp only [Bool.false_eq_true, if_false, h]
  rfl
theorem chk_int (e : Bool) (n : Nat) (a : Int) (F : PH) : rdo prog (Instr.checkKey e (n + 1) 3 (vi a)) F () := by
  simp only [Instr.checkKey, rdo_bind]
  refine ⟨_, (rdo_underlying underlying3 _).2 rfl, ?_⟩
  rfl
theorem si72 : prog.stoodInHeld 72 = false := by kernel_rfl

abbrev LS := ForInStep (Option Bool × Unit)
theorem fld_step (n : Nat) (off : Nat) (cs ds : Array Value) (x y : Int) (h1 : cs[off]? = some (vi x)) (h2 : ds[off]? = some (vi y)) (F : PH) :
    rdo prog (do
      let a ← part 3 cs off
      let b ← part 3 ds off
      let r ← Op.equalIn (n + 1) 3 a b
      if (!r) = true then pure (ForInStep.done (some false, ())) else pure (ForInStep.yield (none, ())) : Sem LS) F (if x = y then .yield (none, ()) else .done (some false, ())) := by
  simp only [rdo_bind]
  refine ⟨_, part_int _ _ _ h1 F, _, part_int _ _ _ h2 F, _, eq_int n x y F, ?_⟩
  by_cases h : x = y
  · simp [h]
  · simp [h]

theorem eqBr (x y : Br) (F : PH) : rdo prog (Op.equal 72 (.agg (barr x)) (.agg (barr y))) F (decide (x = y)) := by
  unfold Op.equal Op.maxDepth
  show rdo prog (Op.equalIn (9998 + 1 + 1) 72 _ _) _ _
  unfold Op.equalIn
  simp only [rdo_bind]
  refine ⟨_, (rdo_underlying underlying72 _).2 rfl, ?_⟩
  dsimp only
  rw [rdo_bind]
  refine ⟨prog, rfl, ?_⟩
  rw [si72]
  simp only [Bool.false_eq_true, if_false]
  simp only [List.forIn_toArray, List.forIn_cons, List.forIn_nil, rdo_bind]
  obtain ⟨a, b, c⟩ := x
  obtain ⟨d, e, f⟩ := y
  rw [if_pos (by decide), if_pos (by decide), if_pos (by decide)]
  by_cases h1 : a = d
  · by_cases h2 : b = e
    · by_cases h3 : c = f
      · refine ⟨(none, ()), ⟨_, fld_step 9998 0 _ _ a d rfl rfl F, ?_⟩, ?_⟩
        · rw [if_pos h1]
          refine (rdo_bind _ _ _ _).2 ⟨_, fld_step 9998 1 _ _ b e rfl rfl F, ?_⟩
          rw [if_pos h2]
          refine (rdo_bind _ _ _ _).2 ⟨_, fld_step 9998 2 _ _ c f rfl rfl F, ?_⟩
          rw [if_pos h3]
          rfl
        · simp [h1, h2, h3]
      · refine ⟨(some false, ()), ⟨_, fld_step 9998 0 _ _ a d rfl rfl F, ?_⟩, ?_⟩
        · rw [if_pos h1]
          refine (rdo_bind _ _ _ _).2 ⟨_, fld_step 9998 1 _ _ b e rfl rfl F, ?_⟩
          rw [if_pos h2]
          refine (rdo_bind _ _ _ _).2 ⟨_, fld_step 9998 2 _ _ c f rfl rfl F, ?_⟩
          rw [if_neg h3]
          rfl
        · simp [h3]
    · refine ⟨(some false, ()), ⟨_, fld_step 9998 0 _ _ a d rfl rfl F, ?_⟩, ?_⟩
      · rw [if_pos h1]
        refine (rdo_bind _ _ _ _).2 ⟨_, fld_step 9998 1 _ _ b e rfl rfl F, ?_⟩
        rw [if_neg h2]
        rfl
      · simp [h2]
  · refine ⟨(some false, ()), ⟨_, fld_step 9998 0 _ _ a d rfl rfl F, ?_⟩, ?_⟩
    · rw [if_neg h1]
      rfl
    · simp [h1]

theorem chk_step (e : Bool) (n : Nat) (off : Nat) (cs : Array Value) (x : Int) (h1 : cs[off]? = some (vi x)) (F : PH) :
    rdo prog (do
      let a ← part 3 cs off
      Instr.checkKey e (n + 1) 3 a
      pure (ForInStep.yield PUnit.unit) : Sem (ForInStep PUnit)) F (.yield PUnit.unit) := by
  simp only [rdo_bind]
  exact ⟨_, part_int _ _ _ h1 F, _, chk_int e n x F, rfl⟩
theorem chkBr (e : Bool) (x : Br) (F : PH) : rdo prog (Instr.checkKey e 10000 72 (.agg (barr x))) F () := by
  show rdo prog (Instr.checkKey e (9998 + 1 + 1) 72 _) _ _
  unfold Instr.checkKey
  simp only [rdo_bind]
  refine ⟨_, (rdo_underlying underlying72 _).2 rfl, ?_⟩
  dsimp only
  simp only [List.forIn_toArray, List.forIn_cons, List.forIn_nil]
  rw [if_pos (by decide), if_pos (by decide), if_pos (by decide)]
  refine (rdo_bind _ _ _ _).2 ⟨PUnit.unit, (rdo_bind _ _ _ _).2 ⟨_, chk_step e 9998 0 _ _ rfl F, (rdo_bind _ _ _ _).2 ⟨_, chk_step e 9998 1 _ _ rfl F, (rdo_bind _ _ _ _).2 ⟨_, chk_step e 9998 2 _ _ rfl F, rfl⟩⟩⟩, rfl⟩

/-! triples and pairs -/
theorem arr_step (n : Nat) (i sz : Nat) (hz : sz = 1) (cs ds : Array Value) (x y : Int) (h1 : cs[i]? = some (vi x)) (h2 : ds[i]? = some (vi y)) (F : PH) :
    rdo prog (do
      let a ← part 3 cs (i * sz)
      let b ← part 3 ds (i * sz)
      let r ← Op.equalIn (n + 1) 3 a b
      if (!r) = true then pure (ForInStep.done (some false, ())) else pure (ForInStep.yield (none, ())) : Sem LS) F (if x = y then .yield (none, ()) else .done (some false, ())) := by
  subst hz
  rw [Nat.mul_one]
  exact fld_step n i cs ds x y h1 h2 F
theorem arr_chk (e : Bool) (n : Nat) (i : Nat) (cs : Array Value) (x : Int) (h1 : cs[i]? = some (vi x)) (F : PH) :
    rdo prog (do
      let s ← sizeOf 3
      let a ← part 3 cs (i * s)
      Instr.checkKey e (n + 1) 3 a
      pure (ForInStep.yield PUnit.unit) : Sem (ForInStep PUnit)) F (.yield PUnit.unit) := by
  refine (rdo_bind _ _ _ _).2 ⟨1, (rdo_sizeOf sz3 _).2 rfl, ?_⟩
  rw [Nat.mul_one]
  exact chk_step e n i cs x h1 F
abbrev arr3 (x : Int × Int × Int) : Array Value := #[vi x.1, vi x.2.1, vi x.2.2]
abbrev arr2 (x : Int × Int) : Array Value := #[vi x.1, vi x.2]
theorem eq3 (x y : Int × Int × Int) (F : PH) : rdo prog (Op.equal 114 (.agg (arr3 x)) (.agg (arr3 y))) F (decide (x = y)) := by
  unfold Op.equal Op.maxDepth
  show rdo prog (Op.equalIn (9998 + 1 + 1) 114 _ _) _ _
  unfold Op.equalIn
  simp only [rdo_bind]
  refine ⟨_, (rdo_underlying underlying114 _).2 rfl, ?_⟩
  dsimp only
  refine (rdo_bind _ _ _ _).2 ⟨1, (rdo_sizeOf sz3 _).2 rfl, ?_⟩
  rw [Std.Legacy.Range.forIn_eq_forIn_range']
  simp only [Std.Legacy.Range.size, Nat.sub_zero, Nat.add_one_sub_one, Nat.div_one, List.range', List.forIn_cons, List.forIn_nil, Nat.zero_add, Nat.reduceAdd]
  obtain ⟨a, b, c⟩ := x
  obtain ⟨d, e, f⟩ := y
  by_cases h0 : a = d
  · skip
    by_cases h1 : b = e
    · skip
      by_cases h2 : c = f
      · skip
        refine (rdo_bind _ _ _ _).2 ⟨(none, ()), (rdo_bind _ _ _ _).2 ⟨_, arr_step 9998 0 1 rfl _ _ a d rfl rfl F, ?_⟩, ?_⟩
        · skip
          rw [if_pos h0]
          refine (rdo_bind _ _ _ _).2 ⟨_, arr_step 9998 1 1 rfl _ _ b e rfl rfl F, ?_⟩
          rw [if_pos h1]
          refine (rdo_bind _ _ _ _).2 ⟨_, arr_step 9998 2 1 rfl _ _ c f rfl rfl F, ?_⟩
          rw [if_pos h2]
          rfl
        · simp [h0, h1, h2]
      · skip
        refine (rdo_bind _ _ _ _).2 ⟨(some false, ()), (rdo_bind _ _ _ _).2 ⟨_, arr_step 9998 0 1 rfl _ _ a d rfl rfl F, ?_⟩, ?_⟩
        · skip
          rw [if_pos h0]
          refine (rdo_bind _ _ _ _).2 ⟨_, arr_step 9998 1 1 rfl _ _ b e rfl rfl F, ?_⟩
          rw [if_pos h1]
          refine (rdo_bind _ _ _ _).2 ⟨_, arr_step 9998 2 1 rfl _ _ c f rfl rfl F, ?_⟩
          rw [if_neg h2]
          rfl
        · simp [h0, h1, h2]
    · skip
      refine (rdo_bind _ _ _ _).2 ⟨(some false, ()), (rdo_bind _ _ _ _).2 ⟨_, arr_step 9998 0 1 rfl _ _ a d rfl rfl F, ?_⟩, ?_⟩
      · skip
        rw [if_pos h0]
        refine (rdo_bind _ _ _ _).2 ⟨_, arr_step 9998 1 1 rfl _ _ b e rfl rfl F, ?_⟩
        rw [if_neg h1]
        rfl
      · simp [h0, h1]
  · skip
    refine (rdo_bind _ _ _ _).2 ⟨(some false, ()), (rdo_bind _ _ _ _).2 ⟨_, arr_step 9998 0 1 rfl _ _ a d rfl rfl F, ?_⟩, ?_⟩
    · skip
      rw [if_neg h0]
      rfl
    · simp [h0]
theorem chk3 (e : Bool) (x : Int × Int × Int) (F : PH) : rdo prog (Instr.checkKey e 10000 114 (.agg (arr3 x))) F () := by
  show rdo prog (Instr.checkKey e (9998 + 1 + 1) 114 _) _ _
  unfold Instr.checkKey
  simp only [rdo_bind]
  refine ⟨_, (rdo_underlying underlying114 _).2 rfl, ?_⟩
  dsimp only
  rw [Std.Legacy.Range.forIn_eq_forIn_range']
  simp only [Std.Legacy.Range.size, Nat.sub_zero, Nat.add_one_sub_one, Nat.div_one, List.range', List.forIn_cons, List.forIn_nil, Nat.zero_add, Nat.reduceAdd]
  refine (rdo_bind _ _ _ _).2 ⟨PUnit.unit, (rdo_bind _ _ _ _).2 ⟨_, arr_chk e 9998 0 _ _ rfl F, (rdo_bind _ _ _ _).2 ⟨_, arr_chk e 9998 1 _ _ rfl F, (rdo_bind _ _ _ _).2 ⟨_, arr_chk e 9998 2 _ _ rfl F, rfl⟩⟩⟩, rfl⟩
theorem eq2 (x y : Int × Int) (F : PH) : rdo prog (Op.equal 123 (.agg (arr2 x)) (.agg (arr2 y))) F (decide (x = y)) := by
  unfold Op.equal Op.maxDepth
  show rdo prog (Op.equalIn (9998 + 1 + 1) 123 _ _) _ _
  unfold Op.equalIn
  simp only [rdo_bind]
  refine ⟨_, (rdo_underlying underlying123 _).2 rfl, ?_⟩
  dsimp only
  refine (rdo_bind _ _ _ _).2 ⟨1, (rdo_sizeOf sz3 _).2 rfl, ?_⟩
  rw [Std.Legacy.Range.forIn_eq_forIn_range']
  simp only [Std.Legacy.Range.size, Nat.sub_zero, Nat.add_one_sub_one, Nat.div_one, List.range', List.forIn_cons, List.forIn_nil, Nat.zero_add, Nat.reduceAdd]
  obtain ⟨a, b⟩ := x
  obtain ⟨d, e⟩ := y
  by_cases h0 : a = d
  · skip
    by_cases h1 : b = e
    · skip
      refine (rdo_bind _ _ _ _).2 ⟨(none, ()), (rdo_bind _ _ _ _).2 ⟨_, arr_step 9998 0 1 rfl _ _ a d rfl rfl F, ?_⟩, ?_⟩
      · skip
        rw [if_pos h0]
        refine (rdo_bind _ _ _ _).2 ⟨_, arr_step 9998 1 1 rfl _ _ b e rfl rfl F, ?_⟩
        rw [if_pos h1]
        rfl
      · simp [h0, h1]
    · skip
      refine (rdo_bind _ _ _ _).2 ⟨(some false, ()), (rdo_bind _ _ _ _).2 ⟨_, arr_step 9998 0 1 rfl _ _ a d rfl rfl F, ?_⟩, ?_⟩
      · skip
        rw [if_pos h0]
        refine (rdo_bind _ _ _ _).2 ⟨_, arr_step 9998 1 1 rfl _ _ b e rfl rfl F, ?_⟩
        rw [if_neg h1]
        rfl
      · simp [h0, h1]
  · skip
    refine (rdo_bind _ _ _ _).2 ⟨(some false, ()), (rdo_bind _ _ _ _).2 ⟨_, arr_step 9998 0 1 rfl _ _ a d rfl rfl F, ?_⟩, ?_⟩
    · skip
      rw [if_neg h0]
      rfl
    · simp [h0]
theorem chk2 (e : Bool) (x : Int × Int) (F : PH) : rdo prog (Instr.checkKey e 10000 123 (.agg (arr2 x))) F () := by
  show rdo prog (Instr.checkKey e (9998 + 1 + 1) 123 _) _ _
  unfold Instr.checkKey
  simp only [rdo_bind]
  refine ⟨_, (rdo_underlying underlying123 _).2 rfl, ?_⟩
  dsimp only
  rw [Std.Legacy.Range.forIn_eq_forIn_range']
  simp only [Std.Legacy.Range.size, Nat.sub_zero, Nat.add_one_sub_one, Nat.div_one, List.range', List.forIn_cons, List.forIn_nil, Nat.zero_add, Nat.reduceAdd]
  refine (rdo_bind _ _ _ _).2 ⟨PUnit.unit, (rdo_bind _ _ _ _).2 ⟨_, arr_chk e 9998 0 _ _ rfl F, (rdo_bind _ _ _ _).2 ⟨_, arr_chk e 9998 1 _ _ rfl F, rfl⟩⟩, rfl⟩
abbrev encB (x : Br) : Value := .agg (barr x)
abbrev encI (x : Int) : Value := vi x
theorem keyI : KeyTy prog 3 encI := by
  refine ⟨fun F a b => ?_, fun F e a => ?_, fun a => ?_, _, underlying3, .inl fun a b => ?_⟩
  · unfold Op.equal Op.maxDepth
    exact eq_int 9999 a b F
  · exact chk_int e 9999 a F
  · unfold Instr.sameBits; simp
  · unfold Instr.sameNow
    simp only [if_true]
    by_cases h : a = b <;> simp [h]
theorem keyB : KeyTy prog 72 encB := by
  refine ⟨fun F a b => eqBr a b F, fun F e a => chkBr e a F, fun a => ?_, _, underlying72, .inr fun a b => ?_⟩
  · show Instr.sameBits (9998 + 1 + 1) _ _ = true
    simp [Instr.sameBits]
  · rfl
abbrev enc3 (x : Int × Int × Int) : Value := .agg (arr3 x)
theorem key3 : KeyTy prog 114 enc3 := by
  refine ⟨fun F a b => eq3 a b F, fun F e a => chk3 e a F, fun a => ?_, _, underlying114, .inr fun a b => ?_⟩
  · show Instr.sameBits (9998 + 1 + 1) _ _ = true
    simp [Instr.sameBits]
  · rfl
abbrev enc2 (x : Int × Int) : Value := .agg (arr2 x)
theorem key2 : KeyTy prog 123 enc2 := by
  refine ⟨fun F a b => eq2 a b F, fun F e a => chk2 e a F, fun a => ?_, _, underlying123, .inr fun a b => ?_⟩
  · show Instr.sameBits (9998 + 1 + 1) _ _ = true
    simp [Instr.sameBits]
  · rfl
theorem zr4b : tzero prog 4 = some (.bool false) := by kernel_rfl
theorem mtN : MapTy prog 109 encI (vi 0) := ⟨_, _, underlying109, zr3, keyI⟩
theorem mtB : MapTy prog 82 encB (vi 0) := ⟨_, _, underlying82, zr3, keyB⟩
theorem mtK : MapTy prog 79 encB (.bool false) := ⟨_, _, underlying79, zr4b, keyB⟩
theorem mt3 : MapTy prog 112 enc3 (vi 0) := ⟨_, _, underlying112, zr3, key3⟩
theorem mt2 : MapTy prog 121 enc2 (.bool false) := ⟨_, _, underlying121, zr4b, key2⟩
end Go.Proofs.Ytafojmoeaneedaa
