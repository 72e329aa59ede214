/-
  Equality of nodes and of sets of places.
-/
import Derived.Test.YtnjcgpihfmklfaaDoorQt
namespace Go.Proofs.YtnjcgpihfmklfaaDoor
open Go Go.Proofs.Tryd
set_option maxRecDepth 10000
abbrev LS := ForInStep (Option Bool × Unit)
section
variable {F : PH}
theorem loopEq {P : Program} {α : Type} (step : α → Option Bool × Unit → Sem LS) (eqs : α → Bool) : ∀ (l : List α), (∀ a ∈ l, rdo P (step a (none, ())) F (if eqs a then .yield (none, ()) else .done (some false, ()))) →
  rdo P (forIn l (none, ()) step) F (if l.all eqs then (none, ()) else (some false, ()))
 | [], _ => rfl
 | a :: l, h => by
  rw [List.forIn_cons, rdo_bind]
  refine ⟨_, h a (by simp), ?_⟩
  rw [List.all_cons]
  cases eqs a with
  | false => rfl
  | true =>
   rw [Bool.true_and]
   exact loopEq step eqs l fun b hb => h b (by simp [hb])
theorem eq_kind (t : TypeId) (k : IntKind) (ht : prog.underlying t = some (.int k)) (d : Nat) (a b : Int) : rdo prog (Op.equalIn (d + 1) t (.int k a) (.int k b)) F (decide (a = b)) := by
 simp only [Op.equalIn, rdo_bind]
 refine ⟨_, (rdo_underlying ht _).2 rfl, ?_⟩
 simp only [if_true, rdo_pure]
 by_cases h : a = b <;> simp [h]
theorem part_kind (t : TypeId) (k : IntKind) (ht : prog.underlying t = some (.int k)) {cs : Array Value} {off : Nat} {v : Value} (h : cs[off]? = some v) : rdo prog (part t cs off) F v := by
 unfold part
 simp only [rdo_bind]
 refine ⟨false, (rdo_isAgg ht _).2 rfl, ?_⟩
 simp only [Bool.false_eq_true, if_false, h]
 rfl
theorem fld_kind (t : TypeId) (k : IntKind) (ht : prog.underlying t = some (.int k)) (n off : Nat) (cs ds : Array Value) (x y : Int) (h1 : cs[off]? = some (.int k x)) (h2 : ds[off]? = some (.int k y)) :
  rdo prog (do
   let a ← part t cs off
   let b ← part t ds off
   let r ← Op.equalIn (n + 1) t a b
   if (!r) = true then pure (ForInStep.done (some false, ())) else pure (ForInStep.yield (none, ())) : Sem LS) F (if decide (x = y) = true then .yield (none, ()) else .done (some false, ())) := by
 simp only [rdo_bind]
 refine ⟨_, part_kind t k ht h1, _, part_kind t k ht h2, _, eq_kind t k ht n x y, ?_⟩
 by_cases h : x = y <;> simp [h]
def Nd.get (x : Nd) (k : Nat) : Int := match k with | 0 => x.k | 1 => x.lo | 2 => x.hi | 3 => x.a | _ => x.b
theorem sz74' : tsz prog 74 = some (1, 8) := by kernel_rfl
theorem eqAr {cs ds : Array Value} {f g : Nat → Int} (h1 : ∀ k, k < 8 → cs[k]? = some (.int .u64 (f k))) (h2 : ∀ k, k < 8 → ds[k]? = some (.int .u64 (g k))) :
  rdo prog (Op.equal 76 (.agg cs) (.agg ds)) F ((List.range 8).all fun k => decide (f k = g k)) := by
 unfold Op.equal Op.maxDepth
 show rdo prog (Op.equalIn (9998 + 1 + 1) 76 _ _) _ _
 unfold Op.equalIn
 simp only [rdo_bind]
 refine ⟨_, (rdo_underlying underlying76 _).2 rfl, ?_⟩
 dsimp only
 refine (rdo_bind _ _ _ _).2 ⟨1, (rdo_sizeOf sz74' _).2 rfl, ?_⟩
 rw [Std.Legacy.Range.forIn_eq_forIn_range']
 simp only [Std.Legacy.Range.size, Nat.sub_zero, Nat.add_one_sub_one, Nat.div_one]
 rw [rdo_bind]
 refine ⟨_, loopEq _ (fun k => decide (f k = g k)) _ fun k hk => ?_, ?_⟩
 ·have hk8 : k < 8 := by
   have := List.mem_range'.1 hk
   omega
  rw [Nat.mul_one]
  exact fld_kind 74 .u64 underlying74 9998 k cs ds _ _ (h1 k hk8) (h2 k hk8)
 ·have hl : List.range' 0 8 1 = List.range 8 := rfl
  rw [hl]
  cases (List.range 8).all (fun k => decide (f k = g k)) <;> rfl
theorem eqPl (P Q : Nat → Bool) : rdo prog (Op.equal 76 (.agg (plA P)) (.agg (plA Q))) F ((List.range 8).all fun k => decide ((wd P k : Int) = (wd Q k : Int))) :=
 eqAr (fun _ h => plA_get P h) (fun _ h => plA_get Q h)
theorem eqPl_none (P : Nat → Bool) : ((List.range 8).all fun k => decide ((wd P k : Int) = (wd noP k : Int))) = true ↔ ∀ i, i < 512 → P i = false := by
 rw [List.all_eq_true]
 have hz : ∀ k, wd noP k = 0 := fun k => wd_zero k
 constructor
 ·intro h i hi
  have := of_decide_eq_true (h (i / 64) (List.mem_range.2 (by omega)))
  rw [hz] at this
  have h0 : wd P (i / 64) = 0 := by omega
  have := wd_eq_zero.1 h0 (i % 64) (by omega)
  rwa [show 64 * (i / 64) + i % 64 = i by omega] at this
 ·intro h k hk
  have hk8 := List.mem_range.1 hk
  have : wd P k = 0 := wd_eq_zero.2 fun j hj => h _ (by omega)
  rw [hz, this]
  rfl
end
end Go.Proofs.YtnjcgpihfmklfaaDoor
